/- Families as texts: the second program. -/
import Derived.Test.YtpaoiiiceekkkaaDoorFmtA
namespace Go.Proofs.YtpaoiiiceekkkaaDoor
open Go.RowKit Go.G5

set_option maxHeartbeats 2000000 in
set_option maxRecDepth 100000 in
theorem fmtFamS_any (g : Int) (l : List Int) (v : Value) (w : World) (hv : Ints w v l) :
    Calls Tryd.prog 33 #[.agg #[.int .i64 g, v]] w fun e w' => e = .returned (.string (famTx g l)) ∧ Below w.heap.size w w' := by
  have hv0 := hv
  obtain ⟨a, b, off, c, rfl, hlen, hix, hc, hb⟩ := hv.view Tryd.prog 22 3 Tryd.underlying22 intElem
  have K0 := Blk.new w 32 #[.int .i64 g, .slice a l.length c]
  have HC := Lib.hid hc
  have HIX := Lib.hid hix
  clear hc hix hlen
  cases hf : isFamB g l with
  | false =>
    have hx : famTx g l = ByteArray.empty := by unfold famTx; rw [hf]; rfl
    have HX := Lib.hid hx
    have HF := Lib.hid hf
    clear hx hf
    go_enter Tryd.func33, Tryd.ntmps33
    go_wp2_with fail
    go_loopw [3, 4] (fun sv iv wr => iv = .int .i64 0 ∧ sv = .string ⟨#[]⟩ ∧ Below w.heap.size w wr ∧ Blk wr w.heap.size 32 #[.int .i64 g, .slice a l.length c]) (fun _ _ _ => 0)
    case atStart => exact ⟨rfl, rfl, bl1 _ _, K0⟩
    case round =>
      obtain ⟨rfl, rfl, B, K⟩ := hrel
      have G1 := K.cell
      by_cases hl0 : 0 < l.length
      · have hl1 : (0 : Int) < (l.length : Int) := by omega
        go_wp2_with fail
        refine (isFamS_any g l _ _ (hv0.below B (Nat.le_refl _))).mono ?_
        rintro e w1 ⟨rfl, hb1⟩
        rw [HF.out]
        have K := K.keep hb1
        have B := B.after hb1 B.size
        clear G1
        have G1 := K.cell
        go_wp2_with fail
        refine (isFamS_any g l _ _ (hv0.below B (Nat.le_refl _))).mono ?_
        rintro e w2 ⟨rfl, hb2⟩
        rw [HF.out]
        go_wp2
        go_ret
        exact ⟨ret_str HX.out.symm, B.after hb2 B.size⟩
      · have hl1 : ¬ (0 : Int) < (l.length : Int) := by omega
        go_wp2_with fail
        refine (isFamS_any g l _ _ (hv0.below B (Nat.le_refl _))).mono ?_
        rintro e w2 ⟨rfl, hb2⟩
        rw [HF.out]
        go_wp2
        go_ret
        exact ⟨ret_str HX.out.symm, B.after hb2 B.size⟩
  | true =>
    have h64 := fam_len hf
    have hlx : famTx g l = if l = [] then noneB else joinB bar (l.map (setTx g)) := by unfold famTx; rw [if_pos hf]
    have hem0 : (joinB bar (l.map (setTx g)) = ByteArray.empty) = (l = []) := bars_emp g l (fam_ok hf)
    have HEM := Lib.hid hem0
    have HLX := Lib.hid hlx
    have HF := Lib.hid hf
    clear hlx hf hem0
    go_enter Tryd.func33, Tryd.ntmps33
    go_wp2_with fail
    go_loopw [3, 4] (fun sv iv wr => ∃ (k : Nat) (S : ByteArray), k ≤ l.length ∧ iv = .int .i64 k ∧ sv = .string S ∧ S = joinB bar ((l.take k).map (setTx g)) ∧ Below w.heap.size w wr ∧ Blk wr w.heap.size 32 #[.int .i64 g, .slice a l.length c]) (fun _ iv _ => l.length - (intOf iv).toNat)
    case atStart => exact ⟨0, _, Nat.zero_le _, rfl, rfl, rfl, bl1 _ _, K0⟩
    case round =>
      obtain ⟨k, S, hk, rfl, rfl, hS, B, K⟩ := hrel
      obtain ⟨wz, rfl⟩ : ∃ q : World, q = wr := ⟨_, rfl⟩
      have hSs : S.size ≤ 22000 := by rw [hS]; exact bars_take g l k h64 hk
      have HS := Lib.hid hS
      clear hS K0
      have G1 := K.cell
      by_cases hlt : k < l.length
      · have hlt2 : (k : Int) < (l.length : Int) := by omega
        go_wp2_with fail
        refine (isFamS_any g l _ _ (hv0.below B (Nat.le_refl _))).mono ?_
        rintro e w1 ⟨rfl, hb1⟩
        rw [HF.out]
        have K := K.keep hb1
        have B := B.after hb1 B.size
        clear G1 hb1
        have hS := HS.out
        have hck := cells_below HC.out hb B (Nat.le_refl _) k hlt
        have hik := fun W => HIX.out W k hlt
        have hnx := bars_next g l k hlt
        rw [← hS] at hnx
        have hS0 : k = 0 → S = ByteArray.empty := fun h => by rw [hS, h]; rfl
        obtain ⟨x, hx⟩ : ∃ x, x = l[k] := ⟨_, rfl⟩
        rw [← hx] at hck hnx
        have hT := setTx_size g x
        have hF := fun y : Ext w1 => fmtSetS_any g x y.w
        obtain ⟨T, hTe⟩ : ∃ T, T = setTx g x := ⟨_, rfl⟩
        rw [← hTe] at hnx hT hF
        have HFF := Lib.hid hF
        have HNX := Lib.hid hnx
        have f0 := K.cell 0
        have f1 := K.cell 1
        simp only [List.getElem?_toArray, List.getElem?_cons_zero, List.getElem?_cons_succ] at f0 f1
        have q0 : ∀ y : Ext w1, y.w.cell? ⟨w.heap.size, 0, none⟩ = some (.int .i64 g) := fun y => y.cell f0
        have q1 : ∀ y : Ext w1, y.w.cell? ⟨w.heap.size, 1, none⟩ = some (.slice a l.length c) := fun y => y.cell f1
        have qk : ∀ y : Ext w1, y.w.cell? ⟨b, off + k, none⟩ = some (.int .i64 x) := fun y => y.cell hck
        clear hF hnx hx hTe hS HS f0 f1 hck
        by_cases hk0 : k = 0
        · have hSe := hS0 hk0
          subst hSe
          have HK0 := Lib.hid hk0
          have hgt : ¬ 0 < (k : Int) := by omega
          have hgt2 : ¬ 0 < k := by omega
          clear hS0 hk0
          go_wp2_with fail
          refine wp_region_ext _ (by kernel_rfl) (by kernel_rfl) ?_
          repeat (first | go_big_quiet_skip | (go_big_quiet_want; go_big_quiet_op; first | go_big_quiet_on | (apply Exists.intro; refine ⟨fun _ => ?_, ?_⟩; (go_at_call 32; with_reducible exact ext_call (HFF.out _)); go_big_quiet_on)))
          refine wpQuiet_nil ?_
          rintro w3 ⟨⟨w3, b3⟩, rfl⟩
          try dsimp only
          have B := B.after b3 B.size
          have K := K.keep b3
          go_wp2
          go_roundw
          case rel => exact ⟨k + 1, _, by omega, by go_num, rfl, by rw [HNX.out, if_pos HK0.out], B, K⟩
          case measure => simp [intOf]; omega
        · have hgt : 0 < (k : Int) := by omega
          have hgt2 : 0 < k := by omega
          have hS2 : (S ++ bar).size ≤ 22001 := by rw [ByteArray.size_append]; show S.size + 1 ≤ 22001; omega
          clear hS0
          go_wp2_with fail
          refine wp_region_ext _ (by kernel_rfl) (by kernel_rfl) ?_
          repeat (first | go_big_quiet_skip | (go_big_quiet_want; go_big_quiet_op; first | go_big_quiet_on | (apply Exists.intro; refine ⟨fun _ => ?_, ?_⟩; (go_at_call 32; with_reducible exact ext_call (HFF.out _)); go_big_quiet_on)))
          refine wpQuiet_nil ?_
          rintro w3 ⟨⟨w3, b3⟩, rfl⟩
          try dsimp only
          have B := B.after b3 B.size
          have K := K.keep b3
          go_wp2
          go_roundw
          case rel => exact ⟨k + 1, _, by omega, by go_num, rfl, by rw [HNX.out, if_neg hk0]; rfl, B, K⟩
          case measure => simp [intOf]; omega
      · have hlt2 : ¬ (k : Int) < (l.length : Int) := by omega
        have hSl : S = joinB bar (l.map (setTx g)) := by rw [HS.out, show k = l.length by omega, List.take_length]
        have hem := str_emp S
        have he2 : decide (S = ByteArray.empty) = decide (l = []) := by rw [hSl]; simp only [HEM.out]
        rw [he2] at hem
        cases h0 : decide (l = []) with
        | true =>
          have hl0 : famTx g l = noneB := by rw [HLX.out, if_pos (of_decide_eq_true h0)]
          rw [h0] at hem
          have HL0 := Lib.hid hl0
          clear h0 he2 hSl hl0 HS
          go_wp2_with fail
          refine (isFamS_any g l _ _ (hv0.below B (Nat.le_refl _))).mono ?_
          rintro e w2 ⟨rfl, hb2⟩
          rw [HF.out]
          go_wp2
          go_ret
          exact ⟨ret_str HL0.out.symm, B.after hb2 B.size⟩
        | false =>
          have hl0 : famTx g l = S := by rw [HLX.out, if_neg (of_decide_eq_false h0)]; exact hSl.symm
          rw [h0] at hem
          have HL0 := Lib.hid hl0
          clear h0 he2 hSl hl0 HS
          go_wp2
          go_ret
          exact ⟨ret_str HL0.out.symm, B⟩
end Go.Proofs.YtpaoiiiceekkkaaDoor
