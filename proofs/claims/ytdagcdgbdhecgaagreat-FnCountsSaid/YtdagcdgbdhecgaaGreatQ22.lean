/- Ranks of matroids, by their number: the second program. -/
import Derived.Test.YtdagcdgbdhecgaaGreatQ21
section
namespace Go.Proofs.YtdagcdgbdhecgaaGreat
open Go.RowKit Go.G5

theorem funElem : FunElem Tryz.prog 32 := ⟨by kernel_rfl⟩
def lenTo (n m : Nat) (v : List Int) (x : Nat) : Nat := ((List.range x).flatMap (fun x : Nat => growL n m (v ++ [Int.ofNat x]))).length
theorem lenTo_succ (n m : Nat) (v : List Int) (x : Nat) : lenTo n m v (x + 1) = lenTo n m v x + (growL n m (v ++ [Int.ofNat x])).length := by
  unfold lenTo
  rw [List.range_succ, List.flatMap_append, List.length_append]; simp
theorem lenTo_all (n m : Nat) (v : List Int) : (growL n (m + 1) v).length = lenTo n m v (pop v.length + 1) := rfl
theorem lenTo_le (n m : Nat) (v : List Int) (x : Nat) (h : v.length + (m + 1) ≤ 8) (hx : x ≤ 4) : lenTo n m v x ≤ 4 * 4 ^ m := by
  unfold lenTo
  have h1 := flat_len (fun x : Nat => growL n m (v ++ [Int.ofNat x])) (4 ^ m) (fun x => growL_len n m _ (by rw [List.length_append, List.length_singleton]; omega)) (List.range x)
  rw [List.length_range] at h1
  exact Nat.le_trans h1 (Nat.mul_le_mul_right _ hx)
set_option maxHeartbeats 4000000 in
set_option maxRecDepth 100000 in
theorem growS_any (N : Nat) (hN : N ≤ 3) : ∀ (m : Nat) (l : List Int) (v : Value) (w : World), l.length + m = 2 ^ N → Ints w v l →
    Calls Tryz.prog 26 #[.int .i64 N, v] w fun e w' => ∃ a i c, e = .returned (.slice a i c) ∧ OwnR 32 w.heap.size w' (.slice a i c) (growL N m l).length ∧ Below w.heap.size w w' := by
  have hp8 : (2 : Nat) ^ N ≤ 8 := Nat.pow_le_pow_right (n := 2) (by decide) hN
  have hpi : ((2 ^ N : Nat) : Int) = (2 : Int) ^ N := by simp
  intro m
  induction m with
  | zero =>
    intro l v w hlm hv
    obtain ⟨av, cv, rfl⟩ := hv.shape
    have ht : ((l.length : Int) == 2 ^ N) = true := by rw [← hpi]; simp; omega
    have hl9 : l.length ≤ 1048576 := by omega
    have hp1 : (2 : Int) ^ N ≤ 8 := by rw [← hpi]; omega
    have hp2 := (two_pow N N (Nat.le_refl _)).2
    have o0 := OwnR.lit0 (E := 32) (B := w.heap.size) w (Nat.le_refl _)
    have HLM := Lib.hid hlm
    clear hpi hlm
    go_enter Tryz.func26, Tryz.ntmps26
    go_wp2_with fail
    refine calls_named ?_
    intro V hV
    have B : Below w.heap.size w V := by rw [hV]; exact bl2 _ _ _
    have o1 : OwnR 32 w.heap.size V (.slice (some ⟨w.heap.size, 0, none⟩) 0 0) 0 := by rw [hV]; exact o0.keep (bl1 _ _)
    have K : Blk V (w.heap.size + 1) 32 #[.int .i64 N, .slice av l.length cv] := by rw [hV]; have := Blk.new (w.alloc (.cells #[] 32)) 32 #[.int .i64 N, .slice av l.length cv]; simpa using this
    clear hV o0
    refine (rankS_any N l _ _ (hv.below B (Nat.le_refl _)) hl9).mono ?_
    rintro e w1 ⟨rfl, hb1⟩
    have K1 := K.keep hb1
    have o1 := o1.keep hb1
    have B1 := B.after hb1 B.size
    have G1 := K1.cell
    have z1 := K1.lt
    have y1 := B1.size
    cases hr : rankB N l with
    | false =>
      have hg : (growL N 0 l).length = 0 := by rw [growL, hr]; rfl
      have HG := Lib.hid hg
      clear hg hr
      go_wp2
      go_ret
      exact ⟨_, _, _, rfl, by rw [HG.out]; exact o1, B1⟩
    | true =>
      have hg : (growL N 0 l).length = 0 + 1 := by rw [growL, hr]; rfl
      have HG := Lib.hid hg
      clear hg hr
      go_wp2_with (at_builtin; refine wpList_appendR1 rfl _ _ _ rfl 32 Tryz.underlying25 funElem w.heap.size _ 0 rfl (o1.keep (bl1 _ _)) w1.heap.size _ _ rfl (cell_new _ _ _ 0 _ rfl) (cell_new _ _ _ 1 _ rfl) rfl rfl (by omega) (B1.alloc B1.size _).size ?_; intro v8 w8 o8 g8 n8; have B8 := (B1.alloc B1.size _).grown g8 (B1.alloc B1.size _).size (fun k hk => (o1.lt k hk).1))
      obtain ⟨a8, q8, rfl⟩ := o8.shape
      go_ret
      exact ⟨a8, _, q8, rfl, by rw [HG.out]; exact o8, B8⟩
  | succ m ih =>
    intro l v w hlm hv
    obtain ⟨av, cv, rfl⟩ := hv.shape
    have ht : ((l.length : Int) == 2 ^ N) = false := by rw [← hpi]; simp; omega
    have hl8 : l.length + (m + 1) ≤ 8 := by omega
    have hpop := pop_le3 l.length (by omega)
    have hL1 : ([] : List Int).length + l.length ≤ 17592186044416 := by simp; omega
    have hL2 : ([] ++ l).length < 17592186044415 := by simp; omega
    have HL1 := Lib.hid hL1
    have HL2 := Lib.hid hL2
    have HLM := Lib.hid hlm
    have IH := Lib.hid ih
    have o0 := OwnR.lit0 (E := 32) (B := w.heap.size) w (Nat.le_refl _)
    have hp1 : (2 : Int) ^ N ≤ 8 := by rw [← hpi]; omega
    have hp2 := (two_pow N N (Nat.le_refl _)).2
    clear hL1 hL2 hlm ih hpi
    go_enter Tryz.func26, Tryz.ntmps26
    go_wp2_with fail
    go_loopw [5, 7] (fun out i wr => ∃ (x : Nat) (a : Option Addr) (q c : Nat), x ≤ pop l.length + 1 ∧ i = .int .i64 x ∧ out = .slice a q c ∧ OwnR 32 w.heap.size wr (.slice a q c) (lenTo N m l x) ∧ Below w.heap.size w wr) (fun _ i _ => 8 - (intOf i).toNat)
    case atStart => exact ⟨0, _, _, _, Nat.zero_le _, rfl, rfl, o0, bl1 _ _⟩
    case round =>
      obtain ⟨x, a, q, c, hx, rfl, rfl, ho, Bw⟩ := hrel
      have HO := Lib.hid ho
      have hvr := hv.below Bw (Nat.le_refl _)
      obtain ⟨P, hP⟩ : ∃ P, P = pop l.length := ⟨_, rfl⟩
      have HP := Lib.hid hP
      have hsz := fun W => l2Size_any l.length W (by omega)
      rw [← hP] at hx hpop
      simp only [← hP] at hsz
      have HSZ := Lib.hid hsz
      clear ho o0 hP hsz
      by_cases hlt : x ≤ P
      · have hxi : (x : Int) ≤ (P : Int) := by omega
        have hER : InR (x : Int) := ⟨by omega, by omega⟩
        have HER := Lib.hid hER
        have hrec : ∀ (v6 : Value) (w6 : World), Ints w6 v6 (([] ++ l) ++ [(x : Int)]) → Below wr.heap.size wr w6 → Calls Tryz.prog 26 #[.int .i64 N, v6] w6 fun e w' => ∃ a i c, e = .returned (.slice a i c) ∧ OwnR 32 w6.heap.size w' (.slice a i c) (growL N m (l ++ [Int.ofNat x])).length ∧ Below w6.heap.size w6 w' := fun v6 w6 h1 _ =>
          IH.out (l ++ [Int.ofNat x]) v6 w6 (by have := HLM.out; rw [List.length_append, List.length_singleton]; omega) h1
        have hsucc := lenTo_succ N m l x
        have hle := lenTo_le N m l x hl8 (by omega)
        have hle2 := growL_len N m (l ++ [Int.ofNat x]) (by rw [List.length_append, List.length_singleton]; omega)
        have h4 : (4 : Nat) ^ m ≤ 4 ^ 8 := Nat.pow_le_pow_right (by decide) (by omega)
        have hLR : lenTo N m l x + (growL N m (l ++ [Int.ofNat x])).length ≤ 1099511627776 := by omega
        have HLR := Lib.hid hLR
        have HS := Lib.hid hsucc
        have HREC := Lib.hid hrec
        clear hrec hsucc hle hle2 h4 hLR hER
        have yw := Bw.size
        go_wp2_with fail
        refine (HSZ.out _).mono ?_
        rintro e1 w1 ⟨rfl, rfl⟩
        go_wp2_with (first
  | (go_at_call 45; refine (HSZ.out _).mono ?_; rintro e1 w1 ⟨rfl, rfl⟩)
  | (at_builtin; refine wpList_appendN rfl _ _ _ rfl 3 Tryz.underlying30 intElem wr.heap.size (.slice (some ⟨wr.heap.size, 0, none⟩) 0 0) [] rfl (OwnI.lit0 wr (Nat.le_refl _)) (.slice av l.length cv) l rfl (hvr.alloc _) HL1.out (bl1 wr _).size ?_; intro v5 w5 o5 g5 n5; have b5 := (bl1 wr (.cells #[] 3)).grown g5 (bl1 wr (.cells #[] 3)).size (fun q hq => ((OwnI.lit0 (E := 3) wr (Nat.le_refl wr.heap.size)).lt q hq).1))
  | (at_builtin; refine wpList_appendN1 rfl _ _ _ rfl 3 Tryz.underlying30 intElem wr.heap.size v5 ([] ++ l) (x : Int) w5.heap.size rfl rfl (cell_new _ _ _ _ _ rfl) (o5.alloc _) HER.out HL2.out (b5.alloc b5.size _).size ?_; intro v6 w6 o6 g6 n6; have b6 := (b5.alloc b5.size _).grown g6 (b5.alloc b5.size _).size (fun q hq => (o5.lt q hq).1))
  | (go_at_call 26; refine (HREC.out v6 w6 o6.ints b6).mono ?_; rintro e7 w7 ⟨p7, q7, c7, rfl, o7, b7⟩; have bb := b6.after b7 b6.size; have oo := HO.out.keep bb)
  | (at_builtin; refine wpList_appendRR rfl _ _ _ rfl 32 Tryz.underlying25 funElem w.heap.size _ _ rfl oo _ _ _ rfl o7 HLR.out (Bw.after bb Bw.size).size ?_; intro v8 w8 o8 g8 n8))
        obtain ⟨a8, q8, rfl⟩ := o8.shape
        have B7 := Bw.after bb Bw.size
        go_roundw
        case rel => exact ⟨x + 1, a8, _, q8, by have := HP.out; omega, by go_num, rfl, by rw [HS.out]; exact o8, B7.grown g8 B7.size (fun k hk => (oo.lt k hk).1)⟩
        case measure => simp [intOf]; omega
      · have hxi : ¬ (x : Int) ≤ (P : Int) := by omega
        have hxe : x = pop l.length + 1 := by have := HP.out; omega
        have HXE := Lib.hid hxe
        clear hxe
        go_wp2_with fail
        refine (HSZ.out _).mono ?_
        rintro e1 w1 ⟨rfl, rfl⟩
        go_wp2
        go_ret
        exact ⟨a, q, c, rfl, by rw [lenTo_all, ← HXE.out]; exact HO.out, Bw⟩
end Go.Proofs.YtdagcdgbdhecgaaGreat
end
