/- Functions as texts: both programs. -/
import Derived.Test.YtpaoiiiceekkkaaDoorNumS
import Derived.Test.YtpaoiiiceekkkaaDoorIncP
import Derived.Test.YtpaoiiiceekkkaaDoorBlk
namespace Go.Proofs.YtpaoiiiceekkkaaDoor
open Go.RowKit Go.G5

theorem fun_len {n : Int} {l : List Int} (h : isFunB n l = true) : l.length ≤ 32 := by
  obtain ⟨_, _, _, _, h32, _⟩ := fun_nat h
  exact h32
def funTx (n : Int) (l : List Int) : ByteArray := if isFunB n l = true then joinB comma (l.map itoaB) else ByteArray.empty
theorem funTx_size (n : Int) (l : List Int) : (funTx n l).size ≤ 704 := by
  unfold funTx
  split
  · rename_i h
    obtain ⟨N, _, _, _, h32, hlb⟩ := fun_nat h
    have := commas_size l (fun x hx => by
      obtain ⟨k, hk, rfl⟩ := List.mem_iff_getElem.1 hx
      have := hlb k hk
      exact ⟨by omega, by omega⟩)
    omega
  · simp
set_option maxHeartbeats 1000000 in
set_option maxRecDepth 100000 in
theorem fmtFunI_any (n : Int) (l : List Int) (v : Value) (w : World) (hv : Ints w v l) (hp : Pow w) :
    Calls Tryd.prog 58 #[.agg #[.int .i64 n, v]] w fun e w' => e = .returned (.string (funTx n l)) ∧ Below w.heap.size w w' := by
  have hv0 := hv
  obtain ⟨a, c, rfl⟩ := hv.shape
  have K0 := Blk.new w 31 #[.int .i64 n, .slice a l.length c]
  go_enter Tryd.func58, Tryd.ntmps58
  go_wp2_with fail
  refine (isFunI_any n l _ _ (hv0.alloc _)).mono ?_
  rintro e w1 ⟨rfl, hb1⟩
  have K1 := K0.keep hb1
  have B1 : Below w.heap.size w w1 := (bl1 _ _).after hb1 (by simp)
  have G1 := K1.cell
  cases hf : isFunB n l with
  | false =>
    have hx : funTx n l = ByteArray.empty := by unfold funTx; rw [hf]; rfl
    have HX := Lib.hid hx
    clear hx hf
    go_wp2
    go_ret
    exact ⟨ret_str HX.out.symm, B1⟩
  | true =>
    have hx : funTx n l = joinB comma (l.map itoaB) := by unfold funTx; rw [if_pos hf]
    have h32 := fun_len hf
    have HJ := Lib.hid (joinIntsI_any l _ w1 (hv0.below B1 (Nat.le_refl _)) (by omega) (hp.keep B1))
    have HX := Lib.hid hx
    clear hx hf h32
    go_wp2_with fail
    refine HJ.out.mono ?_
    rintro e w2 ⟨rfl, hb2⟩
    go_wp2
    go_ret
    exact ⟨ret_str HX.out.symm, B1.after hb2 B1.size⟩
set_option maxHeartbeats 1000000 in
set_option maxRecDepth 100000 in
theorem fmtFunS_any (n : Int) (l : List Int) (v : Value) (w : World) (hv : Ints w v l) :
    Calls Tryd.prog 31 #[.agg #[.int .i64 n, v]] w fun e w' => e = .returned (.string (funTx n l)) ∧ Below w.heap.size w w' := by
  have hv0 := hv
  have hin := hv.inR
  obtain ⟨a, b, off, c, rfl, hlen, hix, hc, hb⟩ := hv.view Tryd.prog 22 3 Tryd.underlying22 intElem
  have K0 := Blk.new w 31 #[.int .i64 n, .slice a l.length c]
  have HC := Lib.hid hc
  have HIN := Lib.hid hin
  have HIX := Lib.hid hix
  clear hc hin hix hlen
  cases hf : isFunB n l with
  | false =>
    have hx : funTx n l = ByteArray.empty := by unfold funTx; rw [hf]; rfl
    have HX := Lib.hid hx
    have HF := Lib.hid hf
    clear hx hf
    go_enter Tryd.func31, Tryd.ntmps31
    go_wp2_with fail
    go_loopw [3, 4] (fun sv iv wr => iv = .int .i64 0 ∧ sv = .string ⟨#[]⟩ ∧ Below w.heap.size w wr ∧ Blk wr w.heap.size 31 #[.int .i64 n, .slice a l.length c]) (fun _ _ _ => 0)
    case atStart => exact ⟨rfl, rfl, bl1 _ _, K0⟩
    case round =>
      obtain ⟨rfl, rfl, B, K⟩ := hrel
      have G1 := K.cell
      go_wp2_with fail
      refine (isFunS_any n l _ _ (hv0.below B (Nat.le_refl _))).mono ?_
      rintro e w1 ⟨rfl, hb1⟩
      rw [HF.out]
      go_wp2
      go_ret
      exact ⟨ret_str HX.out.symm, B.after hb1 B.size⟩
  | true =>
    have hx : funTx n l = joinB comma (l.map itoaB) := by unfold funTx; rw [if_pos hf]
    have h32 := fun_len hf
    have hl : l.length ≤ 1000 := by omega
    have HX := Lib.hid hx
    have HF := Lib.hid hf
    clear hx hf h32
    go_enter Tryd.func31, Tryd.ntmps31
    go_wp2_with fail
    go_loopw [3, 4] (fun sv iv wr => ∃ (k : Nat) (S : ByteArray), k ≤ l.length ∧ iv = .int .i64 k ∧ sv = .string S ∧ S = joinB comma ((l.take k).map itoaB) ∧ Below w.heap.size w wr ∧ Blk wr w.heap.size 31 #[.int .i64 n, .slice a l.length c]) (fun _ iv _ => l.length - (intOf iv).toNat)
    case atStart => exact ⟨0, _, Nat.zero_le _, rfl, rfl, rfl, bl1 _ _, K0⟩
    case round =>
      obtain ⟨k, S, hk, rfl, rfl, hS, B, K⟩ := hrel
      obtain ⟨wz, rfl⟩ : ∃ q : World, q = wr := ⟨_, rfl⟩
      have HS := Lib.hid hS
      clear hS K0
      have G1 := K.cell
      go_wp2_with fail
      refine (isFunS_any n l _ _ (hv0.below B (Nat.le_refl _))).mono ?_
      rintro e w1 ⟨rfl, hb1⟩
      rw [HF.out]
      have K := K.keep hb1
      have B := B.after hb1 B.size
      clear G1 hb1
      have G1 := K.cell
      have hS := HS.out
      have hSs : S.size ≤ 22000 := by rw [hS]; exact commas_take l k HIN.out hl hk
      by_cases hlt : k < l.length
      · have hlt2 : (k : Int) < (l.length : Int) := by omega
        have hck := cells_below HC.out hb B (Nat.le_refl _) k hlt
        have hik := fun W => HIX.out W k hlt
        have hnx := commas_next l k hlt
        have hxr := HIN.out l[k] (List.getElem_mem hlt)
        rw [← hS] at hnx
        have hS0 : k = 0 → S = ByteArray.empty := fun h => by rw [hS, h]; rfl
        obtain ⟨x, hx⟩ : ∃ x, x = l[k] := ⟨_, rfl⟩
        rw [← hx] at hck hnx hxr
        have hT := itoaB_size x hxr
        have hF := fmtS_any x hxr w1
        obtain ⟨T, hTe⟩ : ∃ T, T = itoaB x := ⟨_, rfl⟩
        rw [← hTe] at hnx hT hF
        have HFF := Lib.hid hF
        have HNX := Lib.hid hnx
        clear hF hnx hx hTe hS HS
        by_cases hk0 : k = 0
        · have hSe := hS0 hk0
          subst hSe
          have HK0 := Lib.hid hk0
          have hgt : ¬ 0 < (k : Int) := by omega
          have hgt2 : ¬ 0 < k := by omega
          clear hS0 hk0
          go_wp2_with fail
          refine HFF.out.mono ?_
          rintro e w3 ⟨rfl, b3⟩
          have B := B.after b3 B.size
          have K := K.keep b3
          go_wp2
          go_roundw
          case rel => exact ⟨k + 1, _, by omega, by go_num, rfl, by rw [HNX.out, if_pos HK0.out], B, K⟩
          case measure => simp [intOf]; omega
        · have hgt : 0 < (k : Int) := by omega
          have hgt2 : 0 < k := by omega
          have hS2 : (S ++ comma).size ≤ 22001 := by rw [ByteArray.size_append]; show S.size + 1 ≤ 22001; omega
          clear hS0
          go_wp2_with fail
          refine HFF.out.mono ?_
          rintro e w3 ⟨rfl, b3⟩
          have B := B.after b3 B.size
          have K := K.keep b3
          go_wp2
          go_roundw
          case rel => exact ⟨k + 1, _, by omega, by go_num, rfl, by rw [HNX.out, if_neg hk0]; rfl, B, K⟩
          case measure => simp [intOf]; omega
      · have hlt2 : ¬ (k : Int) < (l.length : Int) := by omega
        have hSl : funTx n l = S := by rw [HX.out, hS, show k = l.length by omega, List.take_length]
        have HSL := Lib.hid hSl
        clear hSl hS HS
        go_wp2
        go_ret
        exact ⟨ret_str HSL.out.symm, B⟩
end Go.Proofs.YtpaoiiiceekkkaaDoor
