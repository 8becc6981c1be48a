/- The checks of claims: best bases, common sets, indices: the second program. -/
import Derived.Test.YtelmokapdkepbaaGreatQ33
section
namespace Go.Proofs.YtelmokapdkepbaaGreat
open Go.RowKit Go.G5

set_option maxHeartbeats 1000000 in
set_option maxRecDepth 100000 in
theorem bestS_any (w : World) (n : Int) (v : Value) (l : List Int) (hv : Ints w v l) (hl : l.length ≤ 1048576) (u : Value) (x : List Int) (hu : Ints w u x) (vy : Value) (y : List Int) (hy : Ints w vy y) :
    Calls Tryz.prog 21 #[.agg #[.int .i64 n, v], u, vy] w fun e w' => e = .returned (.bool (bestB n l x y)) ∧ Below w.heap.size w w' := by
  obtain ⟨a, c, rfl⟩ := hv.shape
  obtain ⟨au, cu, rfl⟩ := hu.shape
  obtain ⟨ay, cy, rfl⟩ := hy.shape
  have K0 := Blk.new w 31 #[.int .i64 n, .slice a l.length c]
  cases ho : optB n l x with
  | false =>
    have hx : bestB n l x y = false := by unfold bestB; rw [ho]; rfl
    have HX := Lib.hid hx
    have HO := Lib.hid ho
    clear hx ho
    go_enter Tryz.func21, Tryz.ntmps21
    go_wp2_with fail
    refine (l9Fit_any _ n _ l (hv.alloc _) hl _ x (hu.alloc _)).mono ?_
    rintro e w1 ⟨rfl, b1⟩
    rw [HO.out]
    go_wp2
    go_ret
    exact ⟨ret_bool HX.out.symm, (bl1 _ _).after b1 (by simp)⟩
  | true =>
    cases hb : baseB n l y with
    | false =>
      have hx : bestB n l x y = false := by unfold bestB; rw [hb, Bool.and_false]; rfl
      have HX := Lib.hid hx
      have HO := Lib.hid ho
      have HB := Lib.hid hb
      clear hx ho hb
      go_enter Tryz.func21, Tryz.ntmps21
      go_wp2_with fail
      refine (l9Fit_any _ n _ l (hv.alloc _) hl _ x (hu.alloc _)).mono ?_
      rintro e w1 ⟨rfl, b1⟩
      rw [HO.out]
      have B1 : Below w.heap.size w w1 := (bl1 _ _).after b1 (by simp)
      have G := (K0.keep b1).cell
      go_wp2_with fail
      refine (isBaseS_any _ n _ l (hv.below B1 (Nat.le_refl _)) _ y (hy.below B1 (Nat.le_refl _))).mono ?_
      rintro e w2 ⟨rfl, b2⟩
      rw [HB.out]
      go_wp2
      go_ret
      exact ⟨ret_bool HX.out.symm, B1.after b2 B1.size⟩
    | true =>
      obtain ⟨h5, hn, hl2, hl32, hlb, hxb⟩ := opt_fun ho
      obtain ⟨_, hlg⟩ := bel_parts (base_bel hb)
      obtain ⟨hyn, hyb⟩ := longOk hlg
      have hsm := lsL_mem x x.length rfl
      have hx : bestB n l x y = (lsL x).all (fun s => slackOf l y s == 0) := by unfold bestB tightAll; rw [ho, hb]; rfl
      have hvx : vecB x = true := by
        have h := ho
        unfold optB at h
        simp only [Bool.and_eq_true] at h
        exact h.2.1
      have hlv := fun W (h : Ints W (.slice au x.length cu) x) => levelSetsS_any x _ W h h5 hxb hvx
      have hs32 : ∀ s ∈ lsL x, 0 ≤ s ∧ s < (l.length : Int) := fun s h3 => by
        have h4 := hsm s h3
        have e : ((2 : Int) ^ x.length) = ((2 ^ x.length : Nat) : Int) := by simp
        omega
      have hsl := fun (W : World) (s : Int) (h2 : Ints W (.slice ay y.length cy) y) (h3 : s ∈ lsL x) => l3Weigh_any y (.slice ay y.length cy) s W h2 (hs32 s h3).1 (by have := (hs32 s h3).2; omega) (fun k hk => by have := hyb k hk; omega) (by omega)
      have hdat : ∀ s ∈ lsL x, ∃ (p : Nat) (z : Int) (bb : Nat), slackOf l y s = z - wt y s ∧ w.cell? ⟨bb, p, none⟩ = some (.int .i64 z) ∧ ∀ W, (Instr.indexAt 22 (.slice a l.length c) (.int .i64 s)).run Tryz.prog W = .ok (.pointer (some ⟨bb, p, none⟩)) W := fun s h3 => by
        have h4 := hs32 s h3
        obtain ⟨sn, rfl⟩ := Int.eq_ofNat_of_zero_le h4.1
        have hsl : sn < l.length := by omega
        obtain ⟨_, bb, off, _, hve, _, hix, hc, hb⟩ := hv.view Tryz.prog 22 3 Tryz.underlying22 intElem
        injection hve with x1 _ x3
        subst x1 x3
        exact ⟨off + sn, l[sn], bb, by unfold slackOf; rw [Int.toNat_natCast, getD_at l sn hsl], hc sn hsl, fun W => hix W sn hsl⟩
      obtain ⟨T, hT⟩ : ∃ T, T = lsL x := ⟨_, rfl⟩
      rw [← hT] at hx
      simp only [← hT] at hlv hsl hdat
      have HX := Lib.hid hx
      have HO := Lib.hid ho
      have HB := Lib.hid hb
      have HLV := Lib.hid hlv
      have HSL := Lib.hid hsl
      have HDAT := Lib.hid hdat
      clear hx ho hb hlv hsl hT hsm hlb hxb hyb hyn hl2 hn hlg hs32 hvx hdat
      go_enter Tryz.func21, Tryz.ntmps21
      go_wp2_with fail
      refine (l9Fit_any _ n _ l (hv.alloc _) hl _ x (hu.alloc _)).mono ?_
      rintro e w1 ⟨rfl, b1⟩
      rw [HO.out]
      have B1 : Below w.heap.size w w1 := (bl1 _ _).after b1 (by simp)
      have K1 := K0.keep b1
      clear K0 b1
      have G := K1.cell
      go_wp2_with fail
      refine (isBaseS_any _ n _ l (hv.below B1 (Nat.le_refl _)) _ y (hy.below B1 (Nat.le_refl _))).mono ?_
      rintro e w2 ⟨rfl, b2⟩
      rw [HB.out]
      have B2 := B1.after b2 B1.size
      have K2 := K1.keep b2
      clear G K1 B1 b2
      go_wp2_with fail
      refine (HLV.out w2 (hu.below B2 (Nat.le_refl _))).mono ?_
      rintro e w3 ⟨pt, it, qt, rfl, ot, b3⟩
      have hit : it = T.length := ot.ints.capLe.1
      subst hit
      have B3 := B2.after b3 B2.size
      have K3 := K2.keep b3
      obtain ⟨_, tb, toff, _, hve, _, htix, htc, htb⟩ := ot.ints.view Tryz.prog 22 3 Tryz.underlying22 intElem
      injection hve with x1 _ x3
      subst x1 x3
      have HTC := Lib.hid htc
      have HTIX := Lib.hid htix
      clear K2 B2 b3 htc htix ot
      go_wp2_with fail
      go_loopw [9] (fun iv wr => ∃ j : Nat, j ≤ T.length ∧ iv = .int .i64 j ∧ (T.take j).all (fun s => slackOf l y s == 0) = true ∧ Below w3.heap.size w3 wr) (fun iv _ => T.length - (intOf iv).toNat)
      case atStart => exact ⟨0, Nat.zero_le _, rfl, rfl, Below.refl _ _⟩
      case round =>
        obtain ⟨j, hj, rfl, hall, Bw⟩ := hrel
        have HALL := Lib.hid hall
        clear hall
        have B4 := B3.after Bw B3.size
        have K4 := K3.keep Bw
        by_cases hlt : j < T.length
        · have hlt2 : (j : Int) < (T.length : Int) := by omega
          have ck := cells_below HTC.out htb Bw (Nat.le_refl _) j hlt
          have ik := fun W => HTIX.out W j hlt
          have hss := fun (W : World) (h : Ints W (.slice ay y.length cy) y) => HSL.out W T[j] h (List.getElem_mem hlt)
          obtain ⟨p, z, bb, hsz, hcz, hiz⟩ := HDAT.out T[j] (List.getElem_mem hlt)
          have htk := all_take_succ (fun s => slackOf l y s == 0) T j hlt
          have hfa := all_false_k (fun s => slackOf l y s == 0) T j hlt
          obtain ⟨s, hs⟩ : ∃ s, s = T[j] := ⟨_, rfl⟩
          rw [← hs] at ck hsz htk hfa hiz
          simp only [← hs] at hss
          obtain ⟨wt1, hwt1⟩ : ∃ z, z = wt y s := ⟨_, rfl⟩
          simp only [← hwt1] at hss
          rw [← hwt1] at hsz
          rw [hsz] at htk hfa
          have hne : (wt1 != z) = !(z - wt1 == 0) := by
            rw [bne]
            congr 1
            rw [Bool.eq_iff_iff, beq_iff_eq, beq_iff_eq]
            omega
          have HTK := Lib.hid htk
          have HFA := Lib.hid hfa
          have hy4 := hy.below B4 (Nat.le_refl _)
          have QS := Lib.hid (fun q : Ext wr => hss q.w (q.ints hy4))
          have G := K4.cell
          have hcw := keep B4 hcz
          have e1 : ∀ q : Ext wr, q.w.cell? ⟨w.heap.size, 1, none⟩ = some (.slice a l.length c) := fun q => q.cell (G 1)
          have e2 : ∀ q : Ext wr, q.w.cell? ⟨bb, p, none⟩ = some (.int .i64 z) := fun q => q.cell hcw
          have e3 : ∀ q : Ext wr, q.w.cell? ⟨tb, toff + j, none⟩ = some (.int .i64 s) := fun q => q.cell ck
          clear hs hwt1 hsz hss htk hfa hcz hcw G ck
          cases hz : z - wt1 == 0 with
          | false =>
            rw [hz] at hne
            have hx := HX.out.trans (HFA.out hz)
            have HX2 := Lib.hid hx
            clear hx hz
            go_wp2_with fail
            refine wp_region_ext _ (by kernel_rfl) (by kernel_rfl) ?_
            repeat (first | go_big_quiet_skip | (go_big_quiet_want; go_big_quiet_op; first | go_big_quiet_on | (apply Exists.intro; refine ⟨fun _ => ?_, ?_⟩; (go_at_call 14; exact ext_same (QS.out _)); go_big_quiet_on)))
            refine wpQuiet_nil ?_
            rintro w5 ⟨⟨w5, b5⟩, rfl⟩
            try dsimp only
            go_wp2
            go_ret
            exact ⟨ret_bool HX2.out.symm, B4.after b5 B4.size⟩
          | true =>
            rw [hz] at hne
            have ha2 : (T.take (j + 1)).all (fun s => slackOf l y s == 0) = true := by rw [HTK.out, HALL.out, hz]; rfl
            have HA2 := Lib.hid ha2
            clear ha2 hz
            go_wp2_with fail
            refine wp_region_ext _ (by kernel_rfl) (by kernel_rfl) ?_
            repeat (first | go_big_quiet_skip | (go_big_quiet_want; go_big_quiet_op; first | go_big_quiet_on | (apply Exists.intro; refine ⟨fun _ => ?_, ?_⟩; (go_at_call 14; exact ext_same (QS.out _)); go_big_quiet_on)))
            refine wpQuiet_nil ?_
            rintro w5 ⟨⟨w5, b5⟩, rfl⟩
            try dsimp only
            go_wp2
            go_roundw
            case rel => exact ⟨j + 1, by omega, by go_num, HA2.out, Bw.after b5 Bw.size⟩
            case measure => simp [intOf]; omega
        · have hlt2 : ¬ (j : Int) < (T.length : Int) := by omega
          have hx : bestB n l x y = true := by rw [HX.out, ← all_of_take _ T j (by omega), HALL.out]
          have HX2 := Lib.hid hx
          clear hx
          go_wp2
          go_ret
          exact ⟨ret_bool HX2.out.symm, B4⟩


set_option maxHeartbeats 1000000 in
set_option maxRecDepth 100000 in
theorem isIndS_any (w : World) (N : Nat) (v : Value) (l : List Int) (hv : Ints w v l) (hl : l.length ≤ 1048576) (hr : rankB (N : Int) l = true) (hf : isFunB (N : Int) l = true) (s : Nat) (hs : s < 2 ^ N) :
    Calls Tryz.prog 53 #[.agg #[.int .i64 (N : Int), v], .int .i64 (s : Int)] w fun e w' => e = .returned (.bool (freeB l s)) ∧ Below w.heap.size w w' := by
  obtain ⟨a, b, off, c, rfl, hlen, hix, hc, hb⟩ := hv.view Tryz.prog 22 3 Tryz.underlying22 intElem
  obtain ⟨N', hN', hN, hll, hq2, hq3⟩ := fun_nat hf
  have hN' : N' = N := by omega
  subst hN'
  have h32 : (2 : Nat) ^ N' ≤ 2 ^ 5 := Nat.pow_le_pow_right (by decide) hN
  have hsl : s < l.length := by omega
  have hpe : ((2 : Int) ^ N') = ((2 ^ N' : Nat) : Int) := by simp
  have hss : isSet N' (s : Int) = true := isSet_true.2 ⟨by omega, by rw [hpe]; omega⟩
  have K0 := Blk.new w 31 #[.int .i64 (N' : Int), .slice a l.length c]
  have hv0 := hv.alloc (.cells #[.int .i64 (N' : Int), .slice a l.length c] 31)
  have B0 := bl1 w (.cells #[.int .i64 (N' : Int), .slice a l.length c] 31)
  obtain ⟨W0, hW0⟩ : ∃ W, W = w.alloc (.cells #[.int .i64 (N' : Int), .slice a l.length c] 31) := ⟨_, rfl⟩
  rw [← hW0] at K0 B0 hv0
  have G0 := K0.cell
  have e0 : ∀ y : Ext W0, y.w.cell? ⟨w.heap.size, 0, none⟩ = some (.int .i64 (N' : Int)) := fun y => y.cell (G0 0)
  have e1 : ∀ y : Ext W0, y.w.cell? ⟨w.heap.size, 1, none⟩ = some (.slice a l.length c) := fun y => y.cell (G0 1)
  have ck := cells_below hc hb B0 (Nat.le_refl _) s hsl
  have ik := fun W => hix W s hsl
  have hfr : freeB l s = (l[s] == (pop s : Int)) := by
    unfold freeB
    rw [getD_at l s hsl]
    by_cases h : l[s] = (pop s : Int)
    · simp [h]
    · simp [h]
  obtain ⟨y, hy⟩ : ∃ y, y = l[s] := ⟨_, rfl⟩
  rw [← hy] at ck hfr
  have e2 : ∀ z : Ext W0, z.w.cell? ⟨b, off + s, none⟩ = some (.int .i64 y) := fun z => z.cell ck
  have Q5 := fun z : Ext W0 => l5InS_any z.w (N' : Int) _ l (z.ints hv0) (s : Int)
  simp only [hf, Int.toNat_natCast, hss, Bool.and_self] at Q5
  have QR := fun z : Ext W0 => rankS_any (N' : Int) l _ z.w (z.ints hv0) hl
  simp only [hr] at QR
  have Q5 := Lib.hid Q5
  have QR := Lib.hid QR
  have QS := Lib.hid (fun z : Ext W0 => l2Size_any s z.w (by omega))
  have HX := Lib.hid hfr
  have HW0 := Lib.hid hW0
  clear hpe hfr hf hr hll hq2 hq3 hss hsl hy ck hix hc hb hW0 G0 K0 h32
  go_enter Tryz.func53, Tryz.ntmps53
  go_wp2_with fail
  rw [HW0.out.symm]
  refine wp_region_ext _ (by kernel_rfl) (by kernel_rfl) ?_
  repeat (first | go_big_quiet_skip | (go_big_quiet_want; go_big_quiet_op; first | go_big_quiet_on | (apply Exists.intro; refine ⟨fun _ => ?_, ?_⟩; (first | (go_at_call 13; exact ext_call (Q5.out _)) | (go_at_call 52; exact ext_call (QR.out _)) | (go_at_call 25; exact ext_same (QS.out _))); go_big_quiet_on)))
  refine wpQuiet_nil ?_
  rintro w3 ⟨⟨w3, hb3⟩, rfl⟩
  try dsimp only
  go_wp2
  go_ret
  exact ⟨ret_bool HX.out.symm, B0.after hb3 B0.size⟩

set_option maxHeartbeats 1000000 in
set_option maxRecDepth 100000 in
theorem isCommonS_yes (w : World) (N : Nat) (v : Value) (l : List Int) (hv : Ints w v l) (hl : l.length ≤ 1048576) (u : Value) (m : List Int) (hu : Ints w u m) (hm : m.length ≤ 1048576) (hc : comB (N : Int) l (N : Int) m = true) (hf1 : isFunB (N : Int) l = true) (hf2 : isFunB (N : Int) m = true) (s : Nat) (hs : s < 2 ^ N) :
    Calls Tryz.prog 24 #[.agg #[.int .i64 (N : Int), v], .agg #[.int .i64 (N : Int), u], .int .i64 (s : Int)] w fun e w' => e = .returned (.bool (freeB l s && freeB m s)) ∧ Below w.heap.size w w' := by
  obtain ⟨a, c, rfl⟩ := hv.shape
  obtain ⟨b, d, rfl⟩ := hu.shape
  have ham := fun W (h1 : Ints W (.slice a l.length c) l) (h2 : Ints W (.slice b m.length d) m) => areMatS_any W (N : Int) _ l h1 hl (N : Int) _ m h2 hm
  simp only [hc] at ham
  have hr : rankB (N : Int) l = true ∧ rankB (N : Int) m = true := by
    unfold comB at hc
    simp only [Bool.and_eq_true] at hc
    exact hc.1
  have hg1 := fun W (h1 : Ints W (.slice a l.length c) l) => isIndS_any W N _ l h1 hl hr.1 hf1 s hs
  have hg2 := fun W (h1 : Ints W (.slice b m.length d) m) => isIndS_any W N _ m h1 hm hr.2 hf2 s hs
  obtain ⟨p1, hp1⟩ : ∃ p, p = freeB l s := ⟨_, rfl⟩
  obtain ⟨p2, hp2⟩ : ∃ p, p = freeB m s := ⟨_, rfl⟩
  simp only [← hp1] at hg1
  simp only [← hp2] at hg2
  rw [← hp1, ← hp2]
  have HAM := Lib.hid ham
  have HF1 := Lib.hid hg1
  have HF2 := Lib.hid hg2
  clear ham hg1 hg2 hf1 hf2 hp1 hp2 hc hs hr
  go_enter Tryz.func24, Tryz.ntmps24
  go_wp2_with fail
  refine calls_named ?_
  intro V hV
  have B : Below w.heap.size w V := by rw [hV]; exact bl2 _ _ _
  have K1 : Blk V w.heap.size 31 #[.int .i64 (N : Int), .slice a l.length c] := by rw [hV]; exact (Blk.new _ _ _).alloc _
  have K2 : Blk V (w.heap.size + 1) 31 #[.int .i64 (N : Int), .slice b m.length d] := by rw [hV]; have := Blk.new (w.alloc (.cells #[.int .i64 (N : Int), .slice a l.length c] 31)) 31 #[.int .i64 (N : Int), .slice b m.length d]; simpa using this
  clear hV
  refine (HAM.out V (hv.below B (Nat.le_refl _)) (hu.below B (Nat.le_refl _))).mono ?_
  rintro e w1 ⟨rfl, b1⟩
  have B1 := B.after b1 B.size
  have K1' := K1.keep b1
  have K2' := K2.keep b1
  clear K1 K2 B b1
  have G1 := K1'.cell
  go_wp2_with fail
  refine (HF1.out w1 (hv.below B1 (Nat.le_refl _))).mono ?_
  rintro e w2 ⟨rfl, b2⟩
  have B2 := B1.after b2 B1.size
  have K2f := K2'.keep b2
  have G2 := K2f.cell
  clear G1 K1' K2' B1 b2
  cases p1 with
  | false =>
    go_wp2
    go_ret
    exact ⟨rfl, B2⟩
  | true =>
    go_wp2_with fail
    refine (HF2.out w2 (hu.below B2 (Nat.le_refl _))).mono ?_
    rintro e w3 ⟨rfl, b3⟩
    go_wp2
    go_ret
    exact ⟨by simp, B2.after b3 B2.size⟩

set_option maxHeartbeats 1000000 in
set_option maxRecDepth 100000 in
theorem idxS_any (n : Int) (hn : 0 ≤ n ∧ n ≤ 6) (x : List Int) (v : Value) (w : World) (hv : Ints w v x) :
    Calls Tryz.prog 23 #[v, .int .i64 n] w fun e w' => e = .returned (.int .i64 (idxL n x 0)) ∧ w = w' := by
  obtain ⟨a, b, off, c, rfl, hlen, hix, hc, hb⟩ := hv.view Tryz.prog 22 3 Tryz.underlying22 intElem
  obtain ⟨T, hT⟩ : ∃ T, T = idxL n x 0 := ⟨_, rfl⟩
  have hst : idxL n (x.drop 0) 0 = T := by rw [List.drop_zero]; exact hT.symm
  rw [← hT]
  have hwn : IntKind.i64.wrap (n - 1) = n - 1 := by rw [IntKind.wrap_i64]; omega
  have HC := Lib.hid hc
  have HIX := Lib.hid hix
  have HST := Lib.hid hst
  clear hc hix hst hT
  go_enter Tryz.func23, Tryz.ntmps23
  go_wp2
  go_loop [5, 6] (fun uv iv => ∃ (j u : Nat), j ≤ x.length ∧ iv = .int .i64 j ∧ uv = .int .i64 (u : Int) ∧ u < 64 ∧ idxL n (x.drop j) u = T) (fun _ iv => x.length - (intOf iv).toNat)
  case atStart => exact ⟨0, 0, Nat.zero_le _, rfl, rfl, by omega, HST.out⟩
  case round =>
    obtain ⟨j, u, hj, rfl, rfl, hu, hid⟩ := hrel
    by_cases hlt : j < x.length
    · have hlt2 : (j : Int) < (x.length : Int) := by omega
      have ck := HC.out j hlt
      have ik := fun W => HIX.out W j hlt
      have hat := idx_at n x j hlt u
      rw [hid] at hat
      obtain ⟨y, hy⟩ : ∃ y, y = x[j] := ⟨_, rfl⟩
      rw [← hy] at ck hat
      obtain ⟨el, hel⟩ : ∃ b, b = isElB n y := ⟨_, rfl⟩
      have hei : ∀ W, Calls Tryz.prog 17 #[.int .i64 y, .int .i64 0, .int .i64 (n - 1)] W fun e' w' => e' = .returned (.bool el) ∧ W = w' := fun W => by
        have := l1In_any y 0 (n - 1) W
        rw [elem_inB] at this
        rw [hel]; exact this
      have HEI := Lib.hid hei
      have hib : idxB n u y = (el && !nbit u y.toNat) := by unfold idxB; rw [hel]
      clear hei hid hy
      cases el with
      | false =>
        have hTT : T = -1 := by rw [hat, hib]; rfl
        have HT := Lib.hid hTT
        clear hTT hat hib hel
        go_wp2_with (go_at_call 17; refine (HEI.out _).mono ?_; rintro e w' ⟨rfl, rfl⟩)
        go_ret
        exact ⟨ret_int HT.out.symm, rfl⟩
      | true =>
        have heb : 0 ≤ y ∧ y < n := by
          have h := hel.symm
          unfold isElB at h
          simpa using h
        obtain ⟨e, rfl⟩ := Int.eq_ofNat_of_zero_le heb.1
        have he6 : e < 6 := by omega
        rw [Int.toNat_natCast] at hat hib
        have hbu := bit_is (u : Int) e (by omega) (by omega)
        have hnu := nbit_is u e
        have hset := setBit_is u e (by omega) he6
        have hp := pow2_bd' (e : Int) (by omega)
        rw [Int.toNat_natCast] at hp
        have hp1 := hp.1
        have hp2 := hp.2
        have hs64 := setBit_64 u hu e he6
        obtain ⟨z, hz⟩ : ∃ y, y = ibit (u : Int) e := ⟨_, rfl⟩
        rw [← hz] at hbu hnu
        clear hz hp heb hel
        cases h2 : nbit u e with
        | true =>
          have t2 : (z == 1) = true := by rw [hnu, h2]
          have hTT : T = -1 := by rw [hat, hib, h2]; rfl
          have HT := Lib.hid hTT
          clear hTT hat hib h2 hnu
          go_wp2_with (go_at_call 17; refine (HEI.out _).mono ?_; rintro e w' ⟨rfl, rfl⟩)
          go_ret
          exact ⟨ret_int HT.out.symm, rfl⟩
        | false =>
          have t2 : (z == 1) = false := by rw [hnu, h2]
          have hTT : idxL n (x.drop (j + 1)) (setBit u e) = T := by rw [hat, hib, h2]; rfl
          obtain ⟨u2, hu2⟩ : ∃ q, q = setBit u e := ⟨_, rfl⟩
          rw [← hu2] at hset hs64 hTT
          have HT := Lib.hid hTT
          clear hTT hat hib h2 hnu hu2
          go_wp2_with (go_at_call 17; refine (HEI.out _).mono ?_; rintro e w' ⟨rfl, rfl⟩)
          go_round
          case rel => exact ⟨j + 1, u2, by omega, by go_num, rfl, hs64, HT.out⟩
          case measure => simp [intOf]; omega
    · have hlt2 : ¬ (j : Int) < (x.length : Int) := by omega
      have hjl : j = x.length := by omega
      rw [hjl, List.drop_length] at hid
      have hTu : (u : Int) = T := hid
      have HT := Lib.hid hTu
      clear hid hTu hjl
      go_wp2
      go_ret
      exact ⟨ret_int HT.out, rfl⟩
end Go.Proofs.YtelmokapdkepbaaGreat
end
