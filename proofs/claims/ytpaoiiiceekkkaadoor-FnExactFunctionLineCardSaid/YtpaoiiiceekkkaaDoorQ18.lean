/- Lists of claims as texts: both programs. -/
import Derived.Test.YtpaoiiiceekkkaaDoorQ17
import Derived.Lib.MinMax
section
namespace Go.Proofs.YtpaoiiiceekkkaaDoor
open Go.RowKit Go.G5

def clip (x : Int) : Int := max (-9999) (min 9999 x)
theorem clip_bd (x : Int) : -9999 ≤ clip x ∧ clip x ≤ 9999 := by unfold clip; omega
theorem clip_inR (x : Int) : InR (clip x) := by have := clip_bd x; exact ⟨by omega, by omega⟩
def listTx (l : List Int) : ByteArray := if (l.length = 0 ∨ 40 < l.length) then noneB else joinB comma ((l.map clip).map itoaB)
theorem listTx_size (l : List Int) : (listTx l).size ≤ 880 := by
  unfold listTx
  split
  · show 4 ≤ 880; omega
  · rename_i h
    have h1 := commas_size (l.map clip) (fun x hx => by
      obtain ⟨y, _, rfl⟩ := List.mem_map.1 hx
      exact clip_inR y)
    rw [List.length_map] at h1
    omega
theorem listTx_ne (l : List Int) : listTx l ≠ ByteArray.empty := by
  unfold listTx
  split
  · intro e
    exact absurd (congrArg ByteArray.size e) (by decide)
  · rename_i h
    rw [Ne, commas_emp, List.map_eq_nil_iff]
    intro e
    subst e
    exact h (.inl rfl)
set_option maxHeartbeats 1000000 in
set_option maxRecDepth 100000 in
theorem listTextI_any (l : List Int) (v : Value) (w : World) (hv : Ints w v l) (hp : Pow w) :
    Calls Tryd.prog 37 #[v] w fun e w' => e = .returned (.string (listTx l)) ∧ Below w.heap.size w w' := by
  obtain ⟨a, b, off, c, rfl, hlen, hix, hc, hb⟩ := hv.view Tryd.prog 22 3 Tryd.underlying22 intElem
  have HC := Lib.hid hc
  have HIX := Lib.hid hix
  clear hc hix hlen
  by_cases h0 : l.length = 0
  · have hx : listTx l = noneB := by unfold listTx; rw [if_pos (.inl h0)]
    have HX := Lib.hid hx
    have hz : ((l.length : Int) == 0) = true := by simp [h0]
    clear hx h0
    go_enter Tryd.func37, Tryd.ntmps37
    go_wp2
    go_ret
    exact ⟨ret_str HX.out.symm, Below.refl _ _⟩
  · have hz : ((l.length : Int) == 0) = false := by
      rw [beq_eq_false_iff_ne]; omega
    by_cases h4 : 40 < l.length
    · have hx : listTx l = noneB := by unfold listTx; rw [if_pos (.inr h4)]
      have HX := Lib.hid hx
      have h4i : (40 : Int) < (l.length : Int) := by omega
      clear hx h0
      go_enter Tryd.func37, Tryd.ntmps37
      go_wp2
      go_ret
      exact ⟨ret_str HX.out.symm, Below.refl _ _⟩
    · have hx : listTx l = joinB comma ((l.map clip).map itoaB) := by unfold listTx; rw [if_neg (by omega)]
      have HX := Lib.hid hx
      have h4i : ¬ (40 : Int) < (l.length : Int) := by omega
      clear hx h0
      go_enter Tryd.func37, Tryd.ntmps37
      go_wp2_with fail
      go_loopw [3, 16] (fun ov iv wr => ∃ (k : Nat) (p : Option Addr) (n cp : Nat), k ≤ l.length ∧ iv = .int .i64 k ∧ ov = .slice p n cp ∧ OwnI 3 w.heap.size wr (.slice p n cp) ((l.take k).map clip) ∧ Below w.heap.size w wr) (fun _ iv _ => l.length - (intOf iv).toNat)
      case atStart => exact ⟨0, _, _, _, Nat.zero_le _, rfl, rfl, OwnI.nil _ _ _, Below.refl _ _⟩
      case round =>
        obtain ⟨k, p, n, cp, hk, rfl, rfl, ho, B⟩ := hrel
        obtain ⟨wz, rfl⟩ : ∃ q : World, q = wr := ⟨_, rfl⟩
        by_cases hlt : k < l.length
        · have hlt2 : (k : Int) < (l.length : Int) := by omega
          have hck := cells_below HC.out hb B (Nat.le_refl _) k hlt
          have hik := fun W => HIX.out W k hlt
          have hst : (l.take (k + 1)).map clip = (l.take k).map clip ++ [clip l[k]] := by
            rw [List.take_succ_eq_append_getElem hlt, List.map_append]; rfl
          have hkl : ((l.take k).map clip).length = k := by simp; omega
          obtain ⟨x, hx⟩ : ∃ x, x = l[k] := ⟨_, rfl⟩
          rw [← hx] at hck hst
          have hcr := clip_inR x
          have hce : max (-9999) (min 9999 x) = clip x := rfl
          have HST := Lib.hid hst
          have HKL := Lib.hid hkl
          have zB := B.size
          clear hx hst hkl
          go_wp2_with (at_builtin; refine wpList_appendI rfl _ _ _ rfl 3 Tryd.underlying22 intElem w.heap.size (.slice p n cp) ((l.take k).map clip) (clip x) _ rfl rfl (cell_new _ _ _ _ _ rfl) (ho.alloc _) hcr (by rw [HKL.out]; omega) (by simp; omega) ?_; intro v7 w7 o7 g7; obtain ⟨p7, i7, q7, rfl⟩ := o7.shape3)
          have rr := ho.lt
          have B7 := (B.alloc zB (.cells #[.int .i64 (clip x)] 3)).grown g7 (by simp; omega) (fun q hq => (rr _ hq).1)
          go_roundw
          case rel => exact ⟨k + 1, p7, i7, q7, by omega, by go_num, rfl, by rw [HST.out]; exact o7, B7⟩
          case measure => simp [intOf]; omega
        · have hkl : k = l.length := by omega
          have ho2 : OwnI 3 w.heap.size wz (.slice p n cp) (l.map clip) := by
            rw [hkl, List.take_length] at ho; exact ho
          have hlt2 : ¬ (k : Int) < (l.length : Int) := by omega
          have hj := joinIntsI_any (l.map clip) _ wz ho2.ints (by rw [List.length_map]; omega) (hp.keep B)
          obtain ⟨J, hJ⟩ : ∃ J, J = joinB comma ((l.map clip).map itoaB) := ⟨_, rfl⟩
          rw [← hJ] at hj
          have HXJ := Lib.hid (HX.out.trans hJ.symm)
          have HJ := Lib.hid hj
          clear hkl ho ho2 hj hJ
          go_wp2_with fail
          refine HJ.out.mono ?_
          rintro e w3 ⟨rfl, b3⟩
          go_wp2
          go_ret
          exact ⟨ret_str HXJ.out.symm, B.after b3 B.size⟩
set_option maxHeartbeats 1000000 in
set_option maxRecDepth 100000 in
theorem l33_any (l : List Int) (v : Value) (w : World) (hv : Ints w v l) :
    Calls Tryd.prog 30 #[v] w fun e w' => e = .returned (.string (listTx l)) ∧ Below w.heap.size w w' := by
  obtain ⟨a, b, off, c, rfl, hlen, hix, hc, hb⟩ := hv.view Tryd.prog 22 3 Tryd.underlying22 intElem
  have HC := Lib.hid hc
  have HIX := Lib.hid hix
  clear hc hix hlen
  by_cases h4 : 40 < l.length
  · have hx : listTx l = noneB := by unfold listTx; rw [if_pos (.inr h4)]
    have HX := Lib.hid hx
    have h4i : ¬ (l.length : Int) ≤ 40 := by omega
    have h4p : (0 : Int) < (l.length : Int) := by omega
    clear hx
    go_enter Tryd.func30, Tryd.ntmps30
    go_wp2_with fail
    go_loopw [3, 4] (fun sv iv wr => iv = .int .i64 0 ∧ sv = .string ⟨#[]⟩ ∧ Below w.heap.size w wr) (fun _ _ _ => 0)
    case atStart => exact ⟨rfl, rfl, Below.refl _ _⟩
    case round =>
      obtain ⟨rfl, rfl, B⟩ := hrel
      go_wp2
      go_ret
      exact ⟨ret_str HX.out.symm, B⟩
  · have hlx : listTx l = if l = [] then noneB else joinB comma ((l.map clip).map itoaB) := by
      unfold listTx
      by_cases h0 : l = []
      · rw [if_pos h0, if_pos (.inl (by rw [h0]; rfl))]
      · rw [if_neg h0, if_neg (fun h => h.elim (fun h => h0 (List.eq_nil_of_length_eq_zero h)) h4)]
    have HLX := Lib.hid hlx
    have h4i : (l.length : Int) ≤ 40 := by omega
    clear hlx
    have hin : ∀ x ∈ l.map clip, InR x := fun x hx => by
      obtain ⟨y, _, rfl⟩ := List.mem_map.1 hx
      exact clip_inR y
    have hml : (l.map clip).length = l.length := List.length_map ..
    have HML := Lib.hid hml
    have HIN := Lib.hid hin
    clear hml hin
    go_enter Tryd.func30, Tryd.ntmps30
    go_wp2_with fail
    go_loopw [3, 4] (fun sv iv wr => ∃ (k : Nat) (S : ByteArray), k ≤ l.length ∧ iv = .int .i64 k ∧ sv = .string S ∧ S = joinB comma (((l.map clip).take k).map itoaB) ∧ Below w.heap.size w wr) (fun _ iv _ => l.length - (intOf iv).toNat)
    case atStart => exact ⟨0, _, Nat.zero_le _, rfl, rfl, rfl, Below.refl _ _⟩
    case round =>
      obtain ⟨k, S, hk, rfl, rfl, hS, B⟩ := hrel
      obtain ⟨wz, rfl⟩ : ∃ q : World, q = wr := ⟨_, rfl⟩
      have hSs : S.size ≤ 22000 := by rw [hS]; exact commas_take (l.map clip) k HIN.out (by rw [HML.out]; omega) (by rw [HML.out]; exact hk)
      by_cases hlt : k < l.length
      · have hlt2 : (k : Int) < (l.length : Int) := by omega
        have hck := cells_below HC.out hb B (Nat.le_refl _) k hlt
        have hik := fun W => HIX.out W k hlt
        have hnx := commas_next (l.map clip) k (by rw [HML.out]; exact hlt)
        rw [List.getElem_map] at hnx
        rw [← hS] at hnx
        have hS0 : k = 0 → S = ByteArray.empty := fun h => by rw [hS, h]; rfl
        obtain ⟨x, hx⟩ : ∃ x, x = l[k] := ⟨_, rfl⟩
        rw [← hx] at hck hnx
        have hce : max (-9999) (min 9999 x) = clip x := rfl
        have hT := itoaB_size (clip x) (clip_inR x)
        have hF := fmtS_any (clip x) (clip_inR x) wz
        obtain ⟨T, hTe⟩ : ∃ T, T = itoaB (clip x) := ⟨_, rfl⟩
        rw [← hTe] at hnx hT hF
        have HF := Lib.hid hF
        have HNX := Lib.hid hnx
        clear hF hnx hx hTe hS
        by_cases hk0 : k = 0
        · have hSe := hS0 hk0
          subst hSe
          have HK0 := Lib.hid hk0
          have hgt : ¬ 0 < (k : Int) := by omega
          have hgt2 : ¬ 0 < k := by omega
          clear hS0 hk0
          go_wp2_with fail
          refine HF.out.mono ?_
          rintro e w3 ⟨rfl, b3⟩
          have B := B.after b3 B.size
          go_wp2
          go_roundw
          case rel => exact ⟨k + 1, _, by omega, by go_num, rfl, by rw [HNX.out, if_pos HK0.out], B⟩
          case measure => simp [intOf]; omega
        · have hgt : 0 < (k : Int) := by omega
          have hgt2 : 0 < k := by omega
          have hS2 : (S ++ comma).size ≤ 22001 := by rw [ByteArray.size_append]; show S.size + 1 ≤ 22001; omega
          clear hS0
          go_wp2_with fail
          refine HF.out.mono ?_
          rintro e w3 ⟨rfl, b3⟩
          have B := B.after b3 B.size
          go_wp2
          go_roundw
          case rel => exact ⟨k + 1, _, by omega, by go_num, rfl, by rw [HNX.out, if_neg hk0]; rfl, B⟩
          case measure => simp [intOf]; omega
      · have hlt2 : ¬ (k : Int) < (l.length : Int) := by omega
        have hSl : S = joinB comma ((l.map clip).map itoaB) := by rw [hS, show k = (l.map clip).length by rw [HML.out]; omega, List.take_length]
        have hem := str_emp S
        have he2 : decide (S = ByteArray.empty) = decide (l = []) := by rw [hSl]; simp only [commas_emp, List.map_eq_nil_iff]
        rw [he2] at hem
        cases h0 : decide (l = []) with
        | true =>
          have hl0 : listTx l = noneB := by rw [HLX.out, if_pos (of_decide_eq_true h0)]
          rw [h0] at hem
          have HL0 := Lib.hid hl0
          clear h0 he2 hSl hl0 hS
          go_wp2
          go_ret
          exact ⟨ret_str HL0.out.symm, B⟩
        | false =>
          have hl0 : listTx l = S := by rw [HLX.out, if_neg (of_decide_eq_false h0)]; exact hSl.symm
          rw [h0] at hem
          have HL0 := Lib.hid hl0
          clear h0 he2 hSl hl0 hS
          go_wp2
          go_ret
          exact ⟨ret_str HL0.out.symm, B⟩
end Go.Proofs.YtpaoiiiceekkkaaDoor
end
