/- The checks of claims: common sets, the condition of Hall: the first program. -/
import Derived.Test.YtelmokapdkepbaaGreatQ30
section
namespace Go.Proofs.YtelmokapdkepbaaGreat
open Go.RowKit Go.G5

set_option maxHeartbeats 1000000 in
set_option maxRecDepth 100000 in
theorem isCommonI_yes (w : World) (N : Nat) (v : Value) (l : List Int) (hv : Ints w v l) (hl : l.length ≤ 1048576) (u : Value) (m : List Int) (hu : Ints w u m) (hm : m.length ≤ 1048576) (hc : comB (N : Int) l (N : Int) m = true) (hN : N ≤ 5) (hlN : l.length = 2 ^ N) (hmN : m.length = l.length) (s : Nat) (hs : s < 2 ^ N) :
    Calls Tryz.prog 71 #[.agg #[.int .i64 (N : Int), v], .agg #[.int .i64 (N : Int), u], .int .i64 (s : Int)] w fun e w' => e = .returned (.bool (freeB l s && freeB m s)) ∧ Below w.heap.size w w' := by
  obtain ⟨a, c, rfl⟩ := hv.shape
  obtain ⟨b, d, rfl⟩ := hu.shape
  have h32 : (2 : Nat) ^ N ≤ 2 ^ 5 := Nat.pow_le_pow_right (by decide) hN
  have ham := fun W (h1 : Ints W (.slice a l.length c) l) (h2 : Ints W (.slice b m.length d) m) => areMatI_any W (N : Int) _ l h1 hl (N : Int) _ m h2 hm
  simp only [hc] at ham
  have hso := fun W => isSetOf_any N (s : Int) W (by omega)
  have hpe : ((2 : Int) ^ N) = ((2 ^ N : Nat) : Int) := by simp
  have hss : isSet N (s : Int) = true := isSet_true.2 ⟨by omega, by rw [hpe]; omega⟩
  simp only [hss] at hso
  have hf1 := fun W (h1 : Ints W (.slice a l.length c) l) => isFree_any W (N : Int) _ l h1 s (by omega) (by omega)
  have hf2 := fun W (h1 : Ints W (.slice b m.length d) m) => isFree_any W (N : Int) _ m h1 s (by omega) (by omega)
  obtain ⟨p1, hp1⟩ : ∃ p, p = freeB l s := ⟨_, rfl⟩
  obtain ⟨p2, hp2⟩ : ∃ p, p = freeB m s := ⟨_, rfl⟩
  simp only [← hp1] at hf1
  simp only [← hp2] at hf2
  rw [← hp1, ← hp2]
  have HAM := Lib.hid ham
  have HSO := Lib.hid hso
  have HF1 := Lib.hid hf1
  have HF2 := Lib.hid hf2
  clear hpe ham hso hss hf1 hf2 hp1 hp2 hlN hmN hc hs
  go_enter Tryz.func71, Tryz.ntmps71
  go_wp2_with fail
  refine calls_named ?_
  intro V hV
  have B : Below w.heap.size w V := by rw [hV]; exact bl2 _ _ _
  have K1 : Blk V w.heap.size 31 #[.int .i64 (N : Int), .slice a l.length c] := by rw [hV]; exact (Blk.new _ _ _).alloc _
  have K2 : Blk V (w.heap.size + 1) 31 #[.int .i64 (N : Int), .slice b m.length d] := by rw [hV]; have := Blk.new (w.alloc (.cells #[.int .i64 (N : Int), .slice a l.length c] 31)) 31 #[.int .i64 (N : Int), .slice b m.length d]; simpa using this
  clear hV
  refine (HAM.out V (hv.below B (Nat.le_refl _)) (hu.below B (Nat.le_refl _))).mono ?_
  rintro e w1 ⟨rfl, b1⟩
  have B1 := B.after b1 B.size
  have K1' := K1.keep b1
  have K2' := K2.keep b1
  clear K1 K2 B b1
  have G1 := K1'.cell
  go_wp2_with (go_at_call 59; refine (HSO.out _).mono ?_; rintro e w' ⟨rfl, rfl⟩)
  refine (HF1.out w1 (hv.below B1 (Nat.le_refl _))).mono ?_
  rintro e w2 ⟨rfl, b2⟩
  have B2 := B1.after b2 B1.size
  have K2f := K2'.keep b2
  have G2 := K2f.cell
  clear G1 K1' K2' B1 b2
  cases p1 with
  | false =>
    go_wp2
    go_ret
    exact ⟨rfl, B2⟩
  | true =>
    go_wp2_with fail
    refine (HF2.out w2 (hu.below B2 (Nat.le_refl _))).mono ?_
    rintro e w3 ⟨rfl, b3⟩
    go_wp2
    go_ret
    exact ⟨by simp, B2.after b3 B2.size⟩

set_option maxHeartbeats 2000000 in
set_option maxRecDepth 100000 in
theorem chkComI_any (w : World) (k n1 : Int) (v1 : Value) (l1 : List Int) (h1 : Ints w v1 l1) (n2 : Int) (v2 : Value) (l2 : List Int) (h2 : Ints w v2 l2) (n3 : Int) (v3 : Value) (l3 : List Int) (h3 : Ints w v3 l3) (q st : Int) (v4 : Value) (l4 : List Int) (h4 : Ints w v4 l4) (hl1 : l1.length ≤ 1048576) (hl2 : l2.length ≤ 1048576) :
    Calls Tryz.prog 38 #[clV k n1 v1 n2 v2 n3 v3 q st v4] w fun e w' => e = .returned (.bool (chkCom n1 l1 n2 l2 q st l4)) ∧ Below w.heap.size w w' := by
  obtain ⟨a1, c1, rfl⟩ := h1.shape
  obtain ⟨a2, c2, rfl⟩ := h2.shape
  obtain ⟨a3, c3, rfl⟩ := h3.shape
  obtain ⟨a4, c4, rfl⟩ := h4.shape
  have K0 := Blk.new w 34 (clC k n1 (.slice a1 l1.length c1) n2 (.slice a2 l2.length c2) n3 (.slice a3 l3.length c3) q st (.slice a4 l4.length c4))
  have ham := areMatI_any (w.alloc (.cells (clC k n1 (.slice a1 l1.length c1) n2 (.slice a2 l2.length c2) n3 (.slice a3 l3.length c3) q st (.slice a4 l4.length c4)) 34)) n1 _ l1 (h1.alloc _) hl1 n2 _ l2 (h2.alloc _) hl2
  cases hc : comB n1 l1 n2 l2 with
  | false =>
    have hx : chkCom n1 l1 n2 l2 q st l4 = false := by unfold chkCom; rw [hc]; rfl
    rw [hc] at ham
    have HX := Lib.hid hx
    have HAM := Lib.hid ham
    clear hx ham hc
    go_enter Tryz.func38, Tryz.ntmps38
    go_wp2_with fail
    refine HAM.out.mono ?_
    rintro e w1 ⟨rfl, b1⟩
    go_wp2
    go_ret
    exact ⟨ret_bool HX.out.symm, (bl1 _ _).after b1 (by simp)⟩
  | true =>
    rw [hc] at ham
    obtain ⟨rfl, N, rfl, hN, hlN, hl32, hmN, hbd1, hbd2⟩ := com_fun hc
    have hx : chkCom (N : Int) l1 (N : Int) l2 q st l4 = ((q == (l4.length : Int) && isSet N st) && (decide (0 ≤ idxL (N : Int) l4 0) && comT (N : Int) l1 l2 q st (idxL (N : Int) l4 0))) := by unfold chkCom; rw [hc, Int.toNat_natCast]; rfl
    have hso := fun W => isSetOf_any N st W (by omega)
    have HAM := Lib.hid ham
    cases hq : q == (l4.length : Int) with
    | false =>
      have hqn : (q != (l4.length : Int)) = true := by rw [bne, hq]; rfl
      rw [hq] at hx
      have HX := Lib.hid hx
      clear hx hq hso ham hlN hl32 hmN hbd1 hbd2 hc
      go_enter Tryz.func38, Tryz.ntmps38
      go_wp2_with fail
      refine HAM.out.mono ?_
      rintro e w1 ⟨rfl, b1⟩
      have G := (K0.keep b1).cell
      go_wp2
      go_ret
      exact ⟨ret_bool HX.out.symm, (bl1 _ _).after b1 (by simp)⟩
    | true =>
      have hqn : (q != (l4.length : Int)) = false := by rw [bne, hq]; rfl
      rw [hq, Bool.true_and] at hx
      cases hs : isSet N st with
      | false =>
        rw [hs] at hx hso
        have HX := Lib.hid hx
        have HSO := Lib.hid hso
        clear hx hq hso ham hlN hl32 hmN hbd1 hbd2 hc hs
        go_enter Tryz.func38, Tryz.ntmps38
        go_wp2_with fail
        refine HAM.out.mono ?_
        rintro e w1 ⟨rfl, b1⟩
        have G := (K0.keep b1).cell
        go_wp2_with (go_at_call 59; refine (HSO.out _).mono ?_; rintro e w' ⟨rfl, rfl⟩)
        go_ret
        exact ⟨ret_bool HX.out.symm, (bl1 _ _).after b1 (by simp)⟩
      | true =>
        rw [hs, Bool.true_and] at hx
        rw [hs] at hso
        obtain ⟨sn, rfl, hsn⟩ := set_nat hs
        have hok := idx_ok N (by omega) l4 0 (Nat.two_pow_pos N)
        obtain ⟨T, hT⟩ : ∃ T, T = idxL (N : Int) l4 0 := ⟨_, rfl⟩
        rw [← hT] at hx hok
        have hneg : T = -1 → chkCom (N : Int) l1 (N : Int) l2 q (sn : Int) l4 = false := fun h => by rw [hx, h]; rfl
        have HNEG := Lib.hid hneg
        have hst : idxL (N : Int) (l4.drop 0) 0 = T := by rw [List.drop_zero]; exact hT.symm
        have hsl1 : sn < l1.length := by omega
        have hnd := ndiff_full N hN sn hsn
        have h32 : (2 : Nat) ^ N ≤ 2 ^ 5 := Nat.pow_le_pow_right (by decide) hN
        have hpn := Nat.two_pow_pos N
        have hbits := bitsN (2 ^ N - 1) sn (by omega) (by omega)
        rw [hnd] at hbits
        have hcast : ((2 ^ N - 1 : Nat) : Int) = (2 : Int) ^ N - 1 := by rw [Int.ofNat_sub hpn]; simp
        rw [hcast] at hbits
        obtain ⟨cm, hcm⟩ : ∃ cm, cm = 2 ^ N - 1 - sn := ⟨_, rfl⟩
        rw [← hcm] at hbits
        have hcl : cm < l2.length := by omega
        have hfin : ∀ s : Nat, T = (s : Int) → chkCom (N : Int) l1 (N : Int) l2 q (sn : Int) l4 = ((freeB l1 s && freeB l2 s) && l1.getD sn 0 + l2.getD cm 0 == q) := fun s h => by
          rw [hx, h]
          unfold comT
          have e1 : ((2 : Int) ^ N - 1 - (sn : Int)).toNat = cm := by rw [← hcast, hcm]; omega
          rw [Int.toNat_natCast, Int.toNat_natCast, Int.toNat_natCast, e1]
          rfl
        rw [getD_at l1 sn hsl1, getD_at l2 cm hcl] at hfin
        have hcom := fun (W : World) (s : Nat) (g1 : s < 2 ^ N) (h1 : Ints W (.slice a1 l1.length c1) l1) (h2 : Ints W (.slice a2 l2.length c2) l2) => isCommonI_yes W N _ l1 h1 hl1 _ l2 h2 hl2 hc hN hlN hmN s g1
        have hal := fun (W : World) (h : Ints W (.slice a1 l1.length c1) l1) => allOf_any (N : Int) _ l1 W h (by omega) (by omega)
        simp only [Int.toNat_natCast] at hal
        obtain ⟨_, b1', off1, _, hve, _, hix1, hc1, hb1⟩ := h1.view Tryz.prog 22 3 Tryz.underlying22 intElem
        injection hve with x1 _ x3
        subst x1 x3
        obtain ⟨_, b2', off2, _, hve, _, hix2, hc2, hb2⟩ := h2.view Tryz.prog 22 3 Tryz.underlying22 intElem
        injection hve with x1 _ x3
        subst x1 x3
        obtain ⟨_, b4', off4, _, hve, _, hix4, hc4, hb4⟩ := h4.view Tryz.prog 22 3 Tryz.underlying22 intElem
        injection hve with x1 _ x3
        subst x1 x3
        have d1 := hc1 sn hsl1
        have i1 := fun W => hix1 W sn hsl1
        have d2 := hc2 cm hcl
        have i2 := fun W => hix2 W cm hcl
        have g1 := hbd1 sn hsl1
        have g2 := hbd2 cm hcl
        obtain ⟨y1, hy1⟩ : ∃ y, y = l1[sn] := ⟨_, rfl⟩
        obtain ⟨y2, hy2⟩ : ∃ y, y = l2[cm] := ⟨_, rfl⟩
        rw [← hy1] at d1 g1 hfin
        rw [← hy2] at d2 g2 hfin
        have hwy : IntKind.i64.wrap (y1 + y2) = y1 + y2 := by rw [IntKind.wrap_i64]; omega
        have HSO := Lib.hid hso
        have HOK := Lib.hid hok
        have HFIN := Lib.hid hfin
        have HCOM := Lib.hid hcom
        have HAL := Lib.hid hal
        have HC4 := Lib.hid hc4
        have HIX4 := Lib.hid hix4
        have HST := Lib.hid hst
        clear hx hq hso ham hlN hl32 hmN hbd1 hbd2 hc hs hok hfin hcom hal hc1 hc2 hc4 hix1 hix2 hix4 hst hneg hT hy1 hy2 hsl1 hcl hnd hpn hcast hcm hsn h32
        go_enter Tryz.func38, Tryz.ntmps38
        go_wp2_with fail
        refine HAM.out.mono ?_
        rintro e w1 ⟨rfl, b1⟩
        have B1 : Below w.heap.size w w1 := (bl1 _ _).after b1 (by simp)
        have K1 := K0.keep b1
        have G := K1.cell
        go_wp2_with (go_at_call 59; refine (HSO.out _).mono ?_; rintro e w' ⟨rfl, rfl⟩)
        go_loop [3, 33] (fun uv iv => ∃ (j u : Nat), j ≤ l4.length ∧ iv = .int .i64 j ∧ uv = .int .i64 (u : Int) ∧ u < 64 ∧ idxL (N : Int) (l4.drop j) u = T) (fun _ iv => l4.length - (intOf iv).toNat)
        case atStart => exact ⟨0, 0, Nat.zero_le _, rfl, rfl, by omega, HST.out⟩
        case round =>
          obtain ⟨j, u, hj, rfl, rfl, hu, hid⟩ := hrel
          by_cases hlt : j < l4.length
          · have hlt2 : (j : Int) < (l4.length : Int) := by omega
            have ck : w1.cell? ⟨b4', off4 + j, none⟩ = some (.int .i64 l4[j]) := cells_below HC4.out hb4 B1 (Nat.le_refl _) j hlt
            have ik := fun W => HIX4.out W j hlt
            have hat := idx_at (N : Int) l4 j hlt u
            rw [hid] at hat
            have hu64 : u < 64 := hu
            obtain ⟨x, hx⟩ : ∃ x, x = l4[j] := ⟨_, rfl⟩
            rw [← hx] at ck hat
            clear hx
            obtain ⟨el, hel⟩ : ∃ b, b = isElB (N : Int) x := ⟨_, rfl⟩
            have hei : ∀ W, Calls Tryz.prog 63 #[.int .i64 (N : Int), .int .i64 x] W fun e' w' => e' = .returned (.bool el) ∧ W = w' := fun W => by rw [hel]; exact isElem_any (N : Int) x W
            have HEI := Lib.hid hei
            have hib : idxB (N : Int) u x = (el && !nbit u x.toNat) := by unfold idxB; rw [hel]
            clear hei hid
            cases el with
            | false =>
              have hT : T = -1 := by rw [hat, hib]; rfl
              have HT := Lib.hid hT
              clear hT hat hib hel
              go_wp2_with (go_at_call 63; refine (HEI.out _).mono ?_; rintro e w' ⟨rfl, rfl⟩)
              go_ret
              exact ⟨ret_bool (HNEG.out HT.out).symm, B1⟩
            | true =>
              obtain ⟨e, rfl, heN⟩ := el_nat hel.symm
              have he6 : e < 6 := by omega
              rw [Int.toNat_natCast] at hat hib
              have hbu := bit_is (u : Int) e (by omega) (by omega)
              have hnu := nbit_is u e
              have hset := setBit_is u e (by omega) he6
              have hp := pow2_bd' (e : Int) (by omega)
              rw [Int.toNat_natCast] at hp
              have hp1 := hp.1
              have hp2 := hp.2
              have hs64 := setBit_64 u hu64 e he6
              obtain ⟨z, hz⟩ : ∃ y, y = ibit (u : Int) e := ⟨_, rfl⟩
              rw [← hz] at hbu hnu
              clear hz hp heN hel
              cases h2 : nbit u e with
              | true =>
                have t2 : (z == 1) = true := by rw [hnu, h2]
                have hT : T = -1 := by rw [hat, hib, h2]; rfl
                have HT := Lib.hid hT
                clear hT hat hib h2 hnu
                go_wp2_with (go_at_call 63; refine (HEI.out _).mono ?_; rintro e w' ⟨rfl, rfl⟩)
                go_ret
                exact ⟨ret_bool (HNEG.out HT.out).symm, B1⟩
              | false =>
                have t2 : (z == 1) = false := by rw [hnu, h2]
                have hT : idxL (N : Int) (l4.drop (j + 1)) (setBit u e) = T := by rw [hat, hib, h2]; rfl
                obtain ⟨u2, hu2⟩ : ∃ q, q = setBit u e := ⟨_, rfl⟩
                rw [← hu2] at hset hs64 hT
                have HT := Lib.hid hT
                clear hT hat hib h2 hnu hu2
                go_wp2_with (go_at_call 63; refine (HEI.out _).mono ?_; rintro e w' ⟨rfl, rfl⟩)
                go_round
                case rel => exact ⟨j + 1, u2, by omega, by go_num, rfl, hs64, HT.out⟩
                case measure => simp [intOf]; omega
          · have hlt2 : ¬ (j : Int) < (l4.length : Int) := by omega
            have hjl : j = l4.length := by omega
            rw [hjl, List.drop_length] at hid
            have hTu : T = (u : Int) := hid.symm
            have huN : u < 2 ^ N := by
              rcases HOK.out with h | ⟨s, hs, hs2, _⟩
              · omega
              · have : s = u := by omega
                omega
            have hx := HFIN.out u hTu
            have HX := Lib.hid hx
            have HCO := Lib.hid (fun (W : World) h1 h2 => HCOM.out W u huN h1 h2)
            have h1w := h1.below B1 (Nat.le_refl _)
            have h2w := h2.below B1 (Nat.le_refl _)
            have d1w := keep B1 d1
            have d2w := keep B1 d2
            have e1 : ∀ z : Ext w1, z.w.cell? ⟨w.heap.size, 1, none⟩ = some (.int .i64 (N : Int)) := fun z => z.cell (G 1)
            have e2 : ∀ z : Ext w1, z.w.cell? ⟨w.heap.size, 2, none⟩ = some (.slice a1 l1.length c1) := fun z => z.cell (G 2)
            have e4 : ∀ z : Ext w1, z.w.cell? ⟨w.heap.size, 4, none⟩ = some (.slice a2 l2.length c2) := fun z => z.cell (G 4)
            have e8 : ∀ z : Ext w1, z.w.cell? ⟨w.heap.size, 8, none⟩ = some (.int .i64 (sn : Int)) := fun z => z.cell (G 8)
            have f1 : ∀ z : Ext w1, z.w.cell? ⟨b1', off1 + sn, none⟩ = some (.int .i64 y1) := fun z => z.cell d1w
            have f2 : ∀ z : Ext w1, z.w.cell? ⟨b2', off2 + cm, none⟩ = some (.int .i64 y2) := fun z => z.cell d2w
            have QA := Lib.hid (fun z : Ext w1 => HAL.out z.w (z.ints h1w))
            clear hid hTu hx d1 d2 d1w d2w hjl huN
            go_wp2_with fail
            refine wp_region_ext _ (by kernel_rfl) (by kernel_rfl) ?_
            repeat (first | go_big_quiet_skip | (go_big_quiet_want; go_big_quiet_op; first | go_big_quiet_on | (apply Exists.intro; refine ⟨fun _ => ?_, ?_⟩; (go_at_call 61; exact ext_call (QA.out _)); go_big_quiet_on)))
            refine wpQuiet_nil ?_
            rintro w3 ⟨⟨w3, hb3⟩, rfl⟩
            try dsimp only
            have B3 := B1.after hb3 B1.size
            have K3 := K1.keep hb3
            clear G e1 e2 e4 e8 f1 f2
            have G := K3.cell
            go_wp2_with fail
            refine (HCO.out w3 (h1.below B3 (Nat.le_refl _)) (h2.below B3 (Nat.le_refl _))).mono ?_
            rintro e w4 ⟨rfl, b4⟩
            have B4 := B3.after b4 B3.size
            have K4 := K3.keep b4
            clear G
            have G := K4.cell
            cases hfr : (freeB l1 u && freeB l2 u) with
            | false =>
              rw [hfr] at HX
              go_wp2
              go_ret
              exact ⟨ret_bool HX.out.symm, B4⟩
            | true =>
              rw [hfr] at HX
              go_wp2
              go_ret
              exact ⟨ret_bool HX.out.symm, B4⟩
end Go.Proofs.YtelmokapdkepbaaGreat
end
