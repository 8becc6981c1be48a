/- Ranks of matroids, with what they hold: the second program. -/
import Derived.Test.YtdagcdgbdhecgaaGreatQ23
section
namespace Go.Proofs.YtdagcdgbdhecgaaGreat
open Go.RowKit Go.G5

theorem fNe : (32 : TypeId) ≠ 3 := by decide
def upTo (n m : Nat) (v : List Int) (x : Nat) : List (Int × List Int) := ((List.range x).flatMap (fun x : Nat => growL n m (v ++ [Int.ofNat x]))).map fun l => ((n : Int), l)
theorem upTo_len (n m : Nat) (v : List Int) (x : Nat) : (upTo n m v x).length = lenTo n m v x := by unfold upTo lenTo; rw [List.length_map]
theorem upTo_succ (n m : Nat) (v : List Int) (x : Nat) : upTo n m v (x + 1) = upTo n m v x ++ (growL n m (v ++ [Int.ofNat x])).map fun l => ((n : Int), l) := by
  unfold upTo
  rw [List.range_succ, List.flatMap_append, List.map_append]; simp
theorem upTo_all (n m : Nat) (v : List Int) : (growL n (m + 1) v).map (fun l => ((n : Int), l)) = upTo n m v (pop v.length + 1) := rfl
set_option maxHeartbeats 4000000 in
set_option maxRecDepth 100000 in
theorem growSF_any (N : Nat) (hN : N ≤ 3) : ∀ (m : Nat) (l : List Int) (v : Value) (w : World), l.length + m = 2 ^ N → OwnW 3 0 w v l →
    Calls Tryz.prog 26 #[.int .i64 N, v] w fun e w' => ∃ a i c its, e = .returned (.slice a i c) ∧ FunsW 32 3 w.heap.size w' (.slice a i c) its ∧ readF its = (growL N m l).map (fun l => ((N : Int), l)) ∧ Below w.heap.size w w' := by
  have hp8 : (2 : Nat) ^ N ≤ 8 := Nat.pow_le_pow_right (n := 2) (by decide) hN
  have hpi : ((2 ^ N : Nat) : Int) = (2 : Int) ^ N := by simp
  intro m
  induction m with
  | zero =>
    intro l v w hlm hv
    obtain ⟨av, cv, rfl⟩ := hv.shape
    have ht : ((l.length : Int) == 2 ^ N) = true := by rw [← hpi]; simp; omega
    have hl9 : l.length ≤ 1048576 := by omega
    have hp1 : (2 : Int) ^ N ≤ 8 := by rw [← hpi]; omega
    have hp2 := (two_pow N N (Nat.le_refl _)).2
    have o0 := FunsW.lit0 (F := 32) (I := 3) (B := w.heap.size) w (Nat.le_refl _)
    have HLM := Lib.hid hlm
    clear hpi hlm
    go_enter Tryz.func26, Tryz.ntmps26
    go_wp2_with fail
    refine calls_named ?_
    intro V hV
    have B : Below w.heap.size w V := by rw [hV]; exact bl2 _ _ _
    have o1 : FunsW 32 3 w.heap.size V (.slice (some ⟨w.heap.size, 0, none⟩) 0 0) [] := by rw [hV]; exact o0.keep (bl1 _ _)
    have K : Blk V (w.heap.size + 1) 32 #[.int .i64 N, .slice av l.length cv] := by rw [hV]; have := Blk.new (w.alloc (.cells #[] 32)) 32 #[.int .i64 N, .slice av l.length cv]; simpa using this
    clear hV o0
    refine (rankS_any N l _ _ (hv.below B (Nat.le_refl _)).ints hl9).mono ?_
    rintro e w1 ⟨rfl, hb1⟩
    have K1 := K.keep hb1
    have o1 := o1.keep hb1
    have B1 := B.after hb1 B.size
    have G1 := K1.cell
    have z1 := K1.lt
    have y1 := B1.size
    cases hr : rankB N l with
    | false =>
      have hg : growL N 0 l = [] := by rw [growL, hr]; rfl
      have HG := Lib.hid hg
      clear hg hr
      go_wp2
      go_ret
      exact ⟨_, _, _, [], rfl, o1, by rw [HG.out]; rfl, B1⟩
    | true =>
      have hg : growL N 0 l = [l] := by rw [growL, hr]; rfl
      have hNR : InR (N : Int) := ⟨by omega, by omega⟩
      have HNR := Lib.hid hNR
      have hv1 := hv.below B1 (Nat.le_refl _)
      have HG := Lib.hid hg
      clear hg hr hNR
      go_wp2_with (at_builtin; refine wpList_appendF1 rfl _ _ _ rfl Tryz.underlying25 funElem fNe w.heap.size _ [] rfl w1.heap.size (N : Int) (.slice av l.length cv) l rfl (o1.keep (bl1 _ _)) (cell_new _ _ _ 0 _ rfl) (cell_new _ _ _ 1 _ rfl) HNR.out (hv1.alloc _) (by simp) (B1.alloc B1.size _).size ?_; intro v8 w8 o8 g8 n8; have B8 := (B1.alloc B1.size _).grown g8 (B1.alloc B1.size _).size (fun k hk => (o1.lt k hk).1))
      obtain ⟨a8, q8, rfl⟩ := o8.shape
      go_ret
      exact ⟨a8, _, q8, _, rfl, o8, by rw [HG.out]; rfl, B8⟩
  | succ m ih =>
    intro l v w hlm hv
    obtain ⟨av, cv, rfl⟩ := hv.shape
    have ht : ((l.length : Int) == 2 ^ N) = false := by rw [← hpi]; simp; omega
    have hl8 : l.length + (m + 1) ≤ 8 := by omega
    have hpop := pop_le3 l.length (by omega)
    have hL1 : ([] : List Int).length + l.length ≤ 17592186044416 := by simp; omega
    have hL2 : ([] ++ l).length < 17592186044415 := by simp; omega
    have HL1 := Lib.hid hL1
    have HL2 := Lib.hid hL2
    have HLM := Lib.hid hlm
    have IH := Lib.hid ih
    have o0 := FunsW.lit0 (F := 32) (I := 3) (B := w.heap.size) w (Nat.le_refl _)
    have hp1 : (2 : Int) ^ N ≤ 8 := by rw [← hpi]; omega
    have hp2 := (two_pow N N (Nat.le_refl _)).2
    clear hL1 hL2 hlm ih hpi
    go_enter Tryz.func26, Tryz.ntmps26
    go_wp2_with fail
    go_loopw [5, 7] (fun out i wr => ∃ (x : Nat) (a : Option Addr) (q c : Nat) (its : List FIt), x ≤ pop l.length + 1 ∧ i = .int .i64 x ∧ out = .slice a q c ∧ FunsW 32 3 w.heap.size wr (.slice a q c) its ∧ readF its = upTo N m l x ∧ Below w.heap.size w wr) (fun _ i _ => 8 - (intOf i).toNat)
    case atStart => exact ⟨0, _, _, _, [], Nat.zero_le _, rfl, rfl, o0, rfl, bl1 _ _⟩
    case round =>
      obtain ⟨x, a, q, c, its, hx, rfl, rfl, ho, hre, Bw⟩ := hrel
      have HRE := Lib.hid hre
      have HO := Lib.hid ho
      have hvr := (hv.below Bw (Nat.le_refl _)).ints
      obtain ⟨P, hP⟩ : ∃ P, P = pop l.length := ⟨_, rfl⟩
      have HP := Lib.hid hP
      have hsz := fun W => l2Size_any l.length W (by omega)
      rw [← hP] at hx hpop
      simp only [← hP] at hsz
      have HSZ := Lib.hid hsz
      clear ho o0 hP hsz hre
      by_cases hlt : x ≤ P
      · have hxi : (x : Int) ≤ (P : Int) := by omega
        have hER : InR (x : Int) := ⟨by omega, by omega⟩
        have HER := Lib.hid hER
        have hrec : ∀ (v6 : Value) (w6 : World), OwnW 3 wr.heap.size w6 v6 (([] ++ l) ++ [(x : Int)]) → Below wr.heap.size wr w6 → Calls Tryz.prog 26 #[.int .i64 N, v6] w6 fun e w' => ∃ a i c its, e = .returned (.slice a i c) ∧ FunsW 32 3 w6.heap.size w' (.slice a i c) its ∧ readF its = (growL N m (l ++ [Int.ofNat x])).map (fun l => ((N : Int), l)) ∧ Below w6.heap.size w6 w' := fun v6 w6 h1 _ =>
          IH.out (l ++ [Int.ofNat x]) v6 w6 (by have := HLM.out; rw [List.length_append, List.length_singleton]; omega) (h1.mono (Nat.zero_le _))
        have hsucc := upTo_succ N m l x
        have hle := lenTo_le N m l x hl8 (by omega)
        have hle2 := growL_len N m (l ++ [Int.ofNat x]) (by rw [List.length_append, List.length_singleton]; omega)
        have h4 : (4 : Nat) ^ m ≤ 4 ^ 8 := Nat.pow_le_pow_right (by decide) (by omega)
        have hLR : ∀ jts : List FIt, readF jts = (growL N m (l ++ [Int.ofNat x])).map (fun l => ((N : Int), l)) → its.length + jts.length ≤ 1099511627776 := fun jts hj => by
          have e1 := congrArg List.length HRE.out
          have e2 := congrArg List.length hj
          rw [readF_len, upTo_len] at e1
          rw [readF_len, List.length_map] at e2
          omega
        have HLR := Lib.hid hLR
        have HS := Lib.hid hsucc
        have HREC := Lib.hid hrec
        clear hrec hsucc hle hle2 h4 hLR hER
        have yw := Bw.size
        go_wp2_with fail
        refine (HSZ.out _).mono ?_
        rintro e1 w1 ⟨rfl, rfl⟩
        go_wp2_with (first
  | (go_at_call 45; refine (HSZ.out _).mono ?_; rintro e1 w1 ⟨rfl, rfl⟩)
  | (at_builtin; refine wpList_appendN rfl _ _ _ rfl 3 Tryz.underlying30 intElem wr.heap.size (.slice (some ⟨wr.heap.size, 0, none⟩) 0 0) [] rfl (OwnI.lit0 wr (Nat.le_refl _)) (.slice av l.length cv) l rfl (hvr.alloc _) HL1.out (bl1 wr _).size ?_; intro v5 w5 o5 g5 n5; have b5 := (bl1 wr (.cells #[] 3)).grown g5 (bl1 wr (.cells #[] 3)).size (fun q hq => ((OwnI.lit0 (E := 3) wr (Nat.le_refl wr.heap.size)).lt q hq).1))
  | (at_builtin; refine wpList_appendN1 rfl _ _ _ rfl 3 Tryz.underlying30 intElem wr.heap.size v5 ([] ++ l) (x : Int) w5.heap.size rfl rfl (cell_new _ _ _ _ _ rfl) (o5.alloc _) HER.out HL2.out (b5.alloc b5.size _).size ?_; intro v6 w6 o6 g6 n6; have b6 := (b5.alloc b5.size _).grown g6 (b5.alloc b5.size _).size (fun q hq => (o5.lt q hq).1))
  | (go_at_call 26; refine (HREC.out v6 w6 o6.toW b6).mono ?_; rintro e7 w7 ⟨p7, q7, c7, jts, rfl, o7, r7, b7⟩; have bb := b6.after b7 b6.size; have oo := HO.out.keep bb; have hLR := HLR.out jts r7)
  | (at_builtin; refine wpList_appendFF rfl _ _ _ rfl Tryz.underlying25 funElem fNe w.heap.size _ its rfl oo _ _ jts rfl o7 hLR (Bw.after bb Bw.size).size ?_; intro v8 w8 o8 g8 n8))
        obtain ⟨a8, q8, rfl⟩ := o8.shape
        have B7 := Bw.after bb Bw.size
        go_roundw
        case rel => exact ⟨x + 1, a8, _, q8, _, by have := HP.out; omega, by go_num, rfl, o8, by rw [readF_app, HRE.out, r7, HS.out], B7.grown g8 B7.size (fun k hk => (oo.lt k hk).1)⟩
        case measure => simp [intOf]; omega
      · have hxi : ¬ (x : Int) ≤ (P : Int) := by omega
        have hxe : x = pop l.length + 1 := by have := HP.out; omega
        have HXE := Lib.hid hxe
        clear hxe
        go_wp2_with fail
        refine (HSZ.out _).mono ?_
        rintro e1 w1 ⟨rfl, rfl⟩
        go_wp2
        go_ret
        exact ⟨a, q, c, its, rfl, HO.out, by rw [upTo_all, ← HXE.out]; exact HRE.out, Bw⟩
end Go.Proofs.YtdagcdgbdhecgaaGreat
end
