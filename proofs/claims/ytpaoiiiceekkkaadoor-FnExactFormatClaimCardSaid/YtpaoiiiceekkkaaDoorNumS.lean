/- Numbers that are joined: the second program. -/
import Derived.Test.YtpaoiiiceekkkaaDoorJoinI
namespace Go.Proofs.YtpaoiiiceekkkaaDoor
open Go.RowKit Go.G5

def noneB : ByteArray := ⟨#[110, 111, 110, 101]⟩
def numB (l : List Int) : ByteArray := if l = [] then noneB else joinB comma (l.map itoaB)
theorem commas_take (l : List Int) (k : Nat) (h : ∀ x ∈ l, InR x) (hl : l.length ≤ 1000) (hk : k ≤ l.length) : (joinB comma ((l.take k).map itoaB)).size ≤ 22000 := by
  have h1 := commas_size (l.take k) (fun x hx => h x (List.mem_of_mem_take hx))
  rw [List.length_take] at h1
  have : min k l.length = k := by omega
  rw [this] at h1
  omega
theorem commas_next (l : List Int) (k : Nat) (hk : k < l.length) : joinB comma ((l.take (k + 1)).map itoaB) = if k = 0 then itoaB l[k] else joinB comma ((l.take k).map itoaB) ++ comma ++ itoaB l[k] := by
  have h := joinB_take comma (l.map itoaB) k (by rw [List.length_map]; exact hk)
  rw [List.getElem_map, ← List.map_take, ← List.map_take] at h
  exact h
theorem commas_emp (l : List Int) : (joinB comma (l.map itoaB) = ByteArray.empty) = (l = []) := by
  refine propext ⟨fun h => ?_, fun h => by subst h; rfl⟩
  cases l with
  | nil => rfl
  | cons x l => exact absurd h (joinB_ne comma (itoaB x) (l.map itoaB) (itoaB_ne x))
theorem str_emp (b : ByteArray) : (b.toList == []) = decide (b = ByteArray.empty) := by
  rw [Lib.toList_data]
  by_cases h : b = ByteArray.empty
  · subst h; rfl
  · rw [decide_eq_false h]
    cases hb : b.data.toList with
    | nil => exact absurd (ba_ext (by rw [hb]; rfl)) h
    | cons x r => rfl

set_option maxHeartbeats 1000000 in
set_option maxRecDepth 100000 in
theorem numS_any (l : List Int) (v : Value) (w : World) (hv : Ints w v l) (hl : l.length ≤ 1000) :
    Calls Tryd.prog 44 #[v] w fun e w' => e = .returned (.string (numB l)) ∧ Below w.heap.size w w' := by
  have hin := hv.inR
  obtain ⟨a, b, off, c, rfl, hlen, hix, hc, hb⟩ := hv.view Tryd.prog 22 3 Tryd.underlying22 intElem
  have HC := Lib.hid hc
  have HIN := Lib.hid hin
  have HIX := Lib.hid hix
  clear hc hin hix hlen
  go_enter Tryd.func44, Tryd.ntmps44
  go_wp2_with fail
  go_loopw [3, 4] (fun sv iv wr => ∃ (k : Nat) (S : ByteArray), k ≤ l.length ∧ iv = .int .i64 k ∧ sv = .string S ∧ S = joinB comma ((l.take k).map itoaB) ∧ Below w.heap.size w wr) (fun _ iv _ => l.length - (intOf iv).toNat)
  case atStart => exact ⟨0, _, Nat.zero_le _, rfl, rfl, rfl, Below.refl _ _⟩
  case round =>
    obtain ⟨k, S, hk, rfl, rfl, hS, B⟩ := hrel
    obtain ⟨wz, rfl⟩ : ∃ q : World, q = wr := ⟨_, rfl⟩
    have hSs : S.size ≤ 22000 := by rw [hS]; exact commas_take l k HIN.out hl hk
    by_cases hlt : k < l.length
    · have hlt2 : (k : Int) < (l.length : Int) := by omega
      have hck := cells_below HC.out hb B (Nat.le_refl _) k hlt
      have hik := fun W => HIX.out W k hlt
      have hnx := commas_next l k hlt
      have hxr := HIN.out l[k] (List.getElem_mem hlt)
      rw [← hS] at hnx
      have hS0 : k = 0 → S = ByteArray.empty := fun h => by rw [hS, h]; rfl
      obtain ⟨x, hx⟩ : ∃ x, x = l[k] := ⟨_, rfl⟩
      rw [← hx] at hck hnx hxr
      have hT := itoaB_size x hxr
      have hF := fmtS_any x hxr wz
      obtain ⟨T, hTe⟩ : ∃ T, T = itoaB x := ⟨_, rfl⟩
      rw [← hTe] at hnx hT hF
      have HF := Lib.hid hF
      have HNX := Lib.hid hnx
      clear hF hnx hx hTe hS
      by_cases hk0 : k = 0
      · have hSe := hS0 hk0
        subst hSe
        have HK0 := Lib.hid hk0
        have hgt : ¬ 0 < (k : Int) := by omega
        have hgt2 : ¬ 0 < k := by omega
        clear hS0 hk0
        go_wp2_with fail
        refine HF.out.mono ?_
        rintro e w3 ⟨rfl, b3⟩
        have B := B.after b3 B.size
        go_wp2
        go_roundw
        case rel => exact ⟨k + 1, _, by omega, by go_num, rfl, by rw [HNX.out, if_pos HK0.out], B⟩
        case measure => simp [intOf]; omega
      · have hgt : 0 < (k : Int) := by omega
        have hgt2 : 0 < k := by omega
        have hS2 : (S ++ comma).size ≤ 22001 := by rw [ByteArray.size_append]; show S.size + 1 ≤ 22001; omega
        clear hS0
        go_wp2_with fail
        refine HF.out.mono ?_
        rintro e w3 ⟨rfl, b3⟩
        have B := B.after b3 B.size
        go_wp2
        go_roundw
        case rel => exact ⟨k + 1, _, by omega, by go_num, rfl, by rw [HNX.out, if_neg hk0]; rfl, B⟩
        case measure => simp [intOf]; omega
    · have hlt2 : ¬ (k : Int) < (l.length : Int) := by omega
      have hSl : S = joinB comma (l.map itoaB) := by rw [hS, show k = l.length by omega, List.take_length]
      have hem := str_emp S
      have he2 : decide (S = ByteArray.empty) = decide (l = []) := by rw [hSl]; simp only [commas_emp]
      rw [he2] at hem
      cases h0 : decide (l = []) with
      | true =>
        have hl0 : numB l = noneB := by unfold numB; rw [if_pos (of_decide_eq_true h0)]
        rw [h0] at hem
        have HL0 := Lib.hid hl0
        clear h0 he2 hSl hl0 hS
        go_wp2
        go_ret
        exact ⟨ret_str HL0.out.symm, B⟩
      | false =>
        have hl0 : numB l = S := by unfold numB; rw [if_neg (of_decide_eq_false h0)]; exact hSl.symm
        rw [h0] at hem
        have HL0 := Lib.hid hl0
        clear h0 he2 hSl hl0 hS
        go_wp2
        go_ret
        exact ⟨ret_str HL0.out.symm, B⟩
end Go.Proofs.YtpaoiiiceekkkaaDoor
