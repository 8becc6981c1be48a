/- The checks of claims: common sets, the condition of Hall: the first program. The checks of claims: the condition of Hall, and the check of a claim: the first program. -/
import Derived.Test.YtipejodijbjpcaaGreatDoorQ36
section
namespace Go.Proofs.YtipejodijbjpcaaGreatDoor
open Go.RowKit Go.G5

set_option maxHeartbeats 1000000 in
set_option maxRecDepth 100000 in
theorem isCommonI_yes (w : World) (N : Nat) (v : Value) (l : List Int) (hv : Ints w v l) (hl : l.length ≤ 1048576) (u : Value) (m : List Int) (hu : Ints w u m) (hm : m.length ≤ 1048576) (hc : comB (N : Int) l (N : Int) m = true) (hN : N ≤ 5) (hlN : l.length = 2 ^ N) (hmN : m.length = l.length) (s : Nat) (hs : s < 2 ^ N) :
    Calls Tryz.prog 254 #[.agg #[.int .i64 (N : Int), v], .agg #[.int .i64 (N : Int), u], .int .i64 (s : Int)] w fun e w' => e = .returned (.bool (freeB l s && freeB m s)) ∧ Below w.heap.size w w' := by
  obtain ⟨a, c, rfl⟩ := hv.shape
  obtain ⟨b, d, rfl⟩ := hu.shape
  have h32 : (2 : Nat) ^ N ≤ 2 ^ 5 := Nat.pow_le_pow_right (by decide) hN
  have ham := fun W (h1 : Ints W (.slice a l.length c) l) (h2 : Ints W (.slice b m.length d) m) => areMatI_any W (N : Int) _ l h1 hl (N : Int) _ m h2 hm
  simp only [hc] at ham
  have hso := fun W => isSetOf_any N (s : Int) W (by omega)
  have hpe : ((2 : Int) ^ N) = ((2 ^ N : Nat) : Int) := by simp
  have hss : isSet N (s : Int) = true := isSet_true.2 ⟨by omega, by rw [hpe]; omega⟩
  simp only [hss] at hso
  have hf1 := fun W (h1 : Ints W (.slice a l.length c) l) => isFree_any W (N : Int) _ l h1 s (by omega) (by omega)
  have hf2 := fun W (h1 : Ints W (.slice b m.length d) m) => isFree_any W (N : Int) _ m h1 s (by omega) (by omega)
  obtain ⟨p1, hp1⟩ : ∃ p, p = freeB l s := ⟨_, rfl⟩
  obtain ⟨p2, hp2⟩ : ∃ p, p = freeB m s := ⟨_, rfl⟩
  simp only [← hp1] at hf1
  simp only [← hp2] at hf2
  rw [← hp1, ← hp2]
  have HAM := Lib.hid ham
  have HSO := Lib.hid hso
  have HF1 := Lib.hid hf1
  have HF2 := Lib.hid hf2
  clear hpe ham hso hss hf1 hf2 hp1 hp2 hlN hmN hc hs
  go_enter Tryz.func254, Tryz.ntmps254
  go_wp2_with fail
  refine calls_named ?_
  intro V hV
  have B : Below w.heap.size w V := by rw [hV]; exact bl2 _ _ _
  have K1 : Blk V w.heap.size 32 #[.int .i64 (N : Int), .slice a l.length c] := by rw [hV]; exact (Blk.new _ _ _).alloc _
  have K2 : Blk V (w.heap.size + 1) 32 #[.int .i64 (N : Int), .slice b m.length d] := by rw [hV]; have := Blk.new (w.alloc (.cells #[.int .i64 (N : Int), .slice a l.length c] 32)) 32 #[.int .i64 (N : Int), .slice b m.length d]; simpa using this
  clear hV
  refine (HAM.out V (hv.below B (Nat.le_refl _)) (hu.below B (Nat.le_refl _))).mono ?_
  rintro e w1 ⟨rfl, b1⟩
  have B1 := B.after b1 B.size
  have K1' := K1.keep b1
  have K2' := K2.keep b1
  clear K1 K2 B b1
  have G1 := K1'.cell
  go_wp2_with (go_at_call 229; refine (HSO.out _).mono ?_; rintro e w' ⟨rfl, rfl⟩)
  refine (HF1.out w1 (hv.below B1 (Nat.le_refl _))).mono ?_
  rintro e w2 ⟨rfl, b2⟩
  have B2 := B1.after b2 B1.size
  have K2f := K2'.keep b2
  have G2 := K2f.cell
  clear G1 K1' K2' B1 b2
  cases p1 with
  | false =>
    go_wp2
    go_ret
    exact ⟨rfl, B2⟩
  | true =>
    go_wp2_with fail
    refine (HF2.out w2 (hu.below B2 (Nat.le_refl _))).mono ?_
    rintro e w3 ⟨rfl, b3⟩
    go_wp2
    go_ret
    exact ⟨by simp, B2.after b3 B2.size⟩

set_option maxHeartbeats 2000000 in
set_option maxRecDepth 100000 in
theorem chkComI_any (w : World) (k n1 : Int) (v1 : Value) (l1 : List Int) (h1 : Ints w v1 l1) (n2 : Int) (v2 : Value) (l2 : List Int) (h2 : Ints w v2 l2) (n3 : Int) (v3 : Value) (l3 : List Int) (h3 : Ints w v3 l3) (q st : Int) (v4 : Value) (l4 : List Int) (h4 : Ints w v4 l4) (hl1 : l1.length ≤ 1048576) (hl2 : l2.length ≤ 1048576) :
    Calls Tryz.prog 139 #[clV k n1 v1 n2 v2 n3 v3 q st v4] w fun e w' => e = .returned (.bool (chkCom n1 l1 n2 l2 q st l4)) ∧ Below w.heap.size w w' := by
  obtain ⟨a1, c1, rfl⟩ := h1.shape
  obtain ⟨a2, c2, rfl⟩ := h2.shape
  obtain ⟨a3, c3, rfl⟩ := h3.shape
  obtain ⟨a4, c4, rfl⟩ := h4.shape
  have K0 := Blk.new w 49 (clC k n1 (.slice a1 l1.length c1) n2 (.slice a2 l2.length c2) n3 (.slice a3 l3.length c3) q st (.slice a4 l4.length c4))
  have ham := areMatI_any (w.alloc (.cells (clC k n1 (.slice a1 l1.length c1) n2 (.slice a2 l2.length c2) n3 (.slice a3 l3.length c3) q st (.slice a4 l4.length c4)) 49)) n1 _ l1 (h1.alloc _) hl1 n2 _ l2 (h2.alloc _) hl2
  cases hc : comB n1 l1 n2 l2 with
  | false =>
    have hx : chkCom n1 l1 n2 l2 q st l4 = false := by unfold chkCom; rw [hc]; rfl
    rw [hc] at ham
    have HX := Lib.hid hx
    have HAM := Lib.hid ham
    clear hx ham hc
    go_enter Tryz.func139, Tryz.ntmps139
    go_wp2_with fail
    refine HAM.out.mono ?_
    rintro e w1 ⟨rfl, b1⟩
    go_wp2
    go_ret
    exact ⟨ret_bool HX.out.symm, (bl1 _ _).after b1 (by simp)⟩
  | true =>
    rw [hc] at ham
    obtain ⟨rfl, N, rfl, hN, hlN, hl32, hmN, hbd1, hbd2⟩ := com_fun hc
    have hx : chkCom (N : Int) l1 (N : Int) l2 q st l4 = ((q == (l4.length : Int) && isSet N st) && (decide (0 ≤ idxL (N : Int) l4 0) && comT (N : Int) l1 l2 q st (idxL (N : Int) l4 0))) := by unfold chkCom; rw [hc, Int.toNat_natCast]; rfl
    have hso := fun W => isSetOf_any N st W (by omega)
    have HAM := Lib.hid ham
    cases hq : q == (l4.length : Int) with
    | false =>
      have hqn : (q != (l4.length : Int)) = true := by rw [bne, hq]; rfl
      rw [hq] at hx
      have HX := Lib.hid hx
      clear hx hq hso ham hlN hl32 hmN hbd1 hbd2 hc
      go_enter Tryz.func139, Tryz.ntmps139
      go_wp2_with fail
      refine HAM.out.mono ?_
      rintro e w1 ⟨rfl, b1⟩
      have G := (K0.keep b1).cell
      go_wp2
      go_ret
      exact ⟨ret_bool HX.out.symm, (bl1 _ _).after b1 (by simp)⟩
    | true =>
      have hqn : (q != (l4.length : Int)) = false := by rw [bne, hq]; rfl
      rw [hq, Bool.true_and] at hx
      cases hs : isSet N st with
      | false =>
        rw [hs] at hx hso
        have HX := Lib.hid hx
        have HSO := Lib.hid hso
        clear hx hq hso ham hlN hl32 hmN hbd1 hbd2 hc hs
        go_enter Tryz.func139, Tryz.ntmps139
        go_wp2_with fail
        refine HAM.out.mono ?_
        rintro e w1 ⟨rfl, b1⟩
        have G := (K0.keep b1).cell
        go_wp2_with (go_at_call 229; refine (HSO.out _).mono ?_; rintro e w' ⟨rfl, rfl⟩)
        go_ret
        exact ⟨ret_bool HX.out.symm, (bl1 _ _).after b1 (by simp)⟩
      | true =>
        rw [hs, Bool.true_and] at hx
        rw [hs] at hso
        obtain ⟨sn, rfl, hsn⟩ := set_nat hs
        have hok := idx_ok N (by omega) l4 0 (Nat.two_pow_pos N)
        obtain ⟨T, hT⟩ : ∃ T, T = idxL (N : Int) l4 0 := ⟨_, rfl⟩
        rw [← hT] at hx hok
        have hneg : T = -1 → chkCom (N : Int) l1 (N : Int) l2 q (sn : Int) l4 = false := fun h => by rw [hx, h]; rfl
        have HNEG := Lib.hid hneg
        have hst : idxL (N : Int) (l4.drop 0) 0 = T := by rw [List.drop_zero]; exact hT.symm
        have hsl1 : sn < l1.length := by omega
        have hnd := ndiff_full N hN sn hsn
        have h32 : (2 : Nat) ^ N ≤ 2 ^ 5 := Nat.pow_le_pow_right (by decide) hN
        have hpn := Nat.two_pow_pos N
        have hbits := bitsN (2 ^ N - 1) sn (by omega) (by omega)
        rw [hnd] at hbits
        have hcast : ((2 ^ N - 1 : Nat) : Int) = (2 : Int) ^ N - 1 := by rw [Int.ofNat_sub hpn]; simp
        rw [hcast] at hbits
        obtain ⟨cm, hcm⟩ : ∃ cm, cm = 2 ^ N - 1 - sn := ⟨_, rfl⟩
        rw [← hcm] at hbits
        have hcl : cm < l2.length := by omega
        have hfin : ∀ s : Nat, T = (s : Int) → chkCom (N : Int) l1 (N : Int) l2 q (sn : Int) l4 = ((freeB l1 s && freeB l2 s) && l1.getD sn 0 + l2.getD cm 0 == q) := fun s h => by
          rw [hx, h]
          unfold comT
          have e1 : ((2 : Int) ^ N - 1 - (sn : Int)).toNat = cm := by rw [← hcast, hcm]; omega
          rw [Int.toNat_natCast, Int.toNat_natCast, Int.toNat_natCast, e1]
          rfl
        rw [getD_at l1 sn hsl1, getD_at l2 cm hcl] at hfin
        have hcom := fun (W : World) (s : Nat) (g1 : s < 2 ^ N) (h1 : Ints W (.slice a1 l1.length c1) l1) (h2 : Ints W (.slice a2 l2.length c2) l2) => isCommonI_yes W N _ l1 h1 hl1 _ l2 h2 hl2 hc hN hlN hmN s g1
        have hal := fun (W : World) (h : Ints W (.slice a1 l1.length c1) l1) => allOf_any (N : Int) _ l1 W h (by omega) (by omega)
        simp only [Int.toNat_natCast] at hal
        obtain ⟨_, b1', off1, _, hve, _, hix1, hc1, hb1⟩ := h1.view Tryz.prog 22 3 Tryz.underlying22 intElem
        injection hve with x1 _ x3
        subst x1 x3
        obtain ⟨_, b2', off2, _, hve, _, hix2, hc2, hb2⟩ := h2.view Tryz.prog 22 3 Tryz.underlying22 intElem
        injection hve with x1 _ x3
        subst x1 x3
        obtain ⟨_, b4', off4, _, hve, _, hix4, hc4, hb4⟩ := h4.view Tryz.prog 22 3 Tryz.underlying22 intElem
        injection hve with x1 _ x3
        subst x1 x3
        have d1 := hc1 sn hsl1
        have i1 := fun W => hix1 W sn hsl1
        have d2 := hc2 cm hcl
        have i2 := fun W => hix2 W cm hcl
        have g1 := hbd1 sn hsl1
        have g2 := hbd2 cm hcl
        obtain ⟨y1, hy1⟩ : ∃ y, y = l1[sn] := ⟨_, rfl⟩
        obtain ⟨y2, hy2⟩ : ∃ y, y = l2[cm] := ⟨_, rfl⟩
        rw [← hy1] at d1 g1 hfin
        rw [← hy2] at d2 g2 hfin
        have hwy : IntKind.i64.wrap (y1 + y2) = y1 + y2 := by rw [IntKind.wrap_i64]; omega
        have HSO := Lib.hid hso
        have HOK := Lib.hid hok
        have HFIN := Lib.hid hfin
        have HCOM := Lib.hid hcom
        have HAL := Lib.hid hal
        have HC4 := Lib.hid hc4
        have HIX4 := Lib.hid hix4
        have HST := Lib.hid hst
        clear hx hq hso ham hlN hl32 hmN hbd1 hbd2 hc hs hok hfin hcom hal hc1 hc2 hc4 hix1 hix2 hix4 hst hneg hT hy1 hy2 hsl1 hcl hnd hpn hcast hcm hsn h32
        go_enter Tryz.func139, Tryz.ntmps139
        go_wp2_with fail
        refine HAM.out.mono ?_
        rintro e w1 ⟨rfl, b1⟩
        have B1 : Below w.heap.size w w1 := (bl1 _ _).after b1 (by simp)
        have K1 := K0.keep b1
        have G := K1.cell
        go_wp2_with (go_at_call 229; refine (HSO.out _).mono ?_; rintro e w' ⟨rfl, rfl⟩)
        go_loop [3, 33] (fun uv iv => ∃ (j u : Nat), j ≤ l4.length ∧ iv = .int .i64 j ∧ uv = .int .i64 (u : Int) ∧ u < 64 ∧ idxL (N : Int) (l4.drop j) u = T) (fun _ iv => l4.length - (intOf iv).toNat)
        case atStart => exact ⟨0, 0, Nat.zero_le _, rfl, rfl, by omega, HST.out⟩
        case round =>
          obtain ⟨j, u, hj, rfl, rfl, hu, hid⟩ := hrel
          by_cases hlt : j < l4.length
          · have hlt2 : (j : Int) < (l4.length : Int) := by omega
            have ck : w1.cell? ⟨b4', off4 + j, none⟩ = some (.int .i64 l4[j]) := cells_below HC4.out hb4 B1 (Nat.le_refl _) j hlt
            have ik := fun W => HIX4.out W j hlt
            have hat := idx_at (N : Int) l4 j hlt u
            rw [hid] at hat
            have hu64 : u < 64 := hu
            obtain ⟨x, hx⟩ : ∃ x, x = l4[j] := ⟨_, rfl⟩
            rw [← hx] at ck hat
            clear hx
            obtain ⟨el, hel⟩ : ∃ b, b = isElB (N : Int) x := ⟨_, rfl⟩
            have hei : ∀ W, Calls Tryz.prog 248 #[.int .i64 (N : Int), .int .i64 x] W fun e' w' => e' = .returned (.bool el) ∧ W = w' := fun W => by rw [hel]; exact isElem_any (N : Int) x W
            have HEI := Lib.hid hei
            have hib : idxB (N : Int) u x = (el && !nbit u x.toNat) := by unfold idxB; rw [hel]
            clear hei hid
            cases el with
            | false =>
              have hT : T = -1 := by rw [hat, hib]; rfl
              have HT := Lib.hid hT
              clear hT hat hib hel
              go_wp2_with (go_at_call 248; refine (HEI.out _).mono ?_; rintro e w' ⟨rfl, rfl⟩)
              go_ret
              exact ⟨ret_bool (HNEG.out HT.out).symm, B1⟩
            | true =>
              obtain ⟨e, rfl, heN⟩ := el_nat hel.symm
              have he6 : e < 6 := by omega
              rw [Int.toNat_natCast] at hat hib
              have hbu := bit_is (u : Int) e (by omega) (by omega)
              have hnu := nbit_is u e
              have hset := setBit_is u e (by omega) he6
              have hp := pow2_bd' (e : Int) (by omega)
              rw [Int.toNat_natCast] at hp
              have hp1 := hp.1
              have hp2 := hp.2
              have hs64 := setBit_64 u hu64 e he6
              obtain ⟨z, hz⟩ : ∃ y, y = ibit (u : Int) e := ⟨_, rfl⟩
              rw [← hz] at hbu hnu
              clear hz hp heN hel
              cases h2 : nbit u e with
              | true =>
                have t2 : (z == 1) = true := by rw [hnu, h2]
                have hT : T = -1 := by rw [hat, hib, h2]; rfl
                have HT := Lib.hid hT
                clear hT hat hib h2 hnu
                go_wp2_with (go_at_call 248; refine (HEI.out _).mono ?_; rintro e w' ⟨rfl, rfl⟩)
                go_ret
                exact ⟨ret_bool (HNEG.out HT.out).symm, B1⟩
              | false =>
                have t2 : (z == 1) = false := by rw [hnu, h2]
                have hT : idxL (N : Int) (l4.drop (j + 1)) (setBit u e) = T := by rw [hat, hib, h2]; rfl
                obtain ⟨u2, hu2⟩ : ∃ q, q = setBit u e := ⟨_, rfl⟩
                rw [← hu2] at hset hs64 hT
                have HT := Lib.hid hT
                clear hT hat hib h2 hnu hu2
                go_wp2_with (go_at_call 248; refine (HEI.out _).mono ?_; rintro e w' ⟨rfl, rfl⟩)
                go_round
                case rel => exact ⟨j + 1, u2, by omega, by go_num, rfl, hs64, HT.out⟩
                case measure => simp [intOf]; omega
          · have hlt2 : ¬ (j : Int) < (l4.length : Int) := by omega
            have hjl : j = l4.length := by omega
            rw [hjl, List.drop_length] at hid
            have hTu : T = (u : Int) := hid.symm
            have huN : u < 2 ^ N := by
              rcases HOK.out with h | ⟨s, hs, hs2, _⟩
              · omega
              · have : s = u := by omega
                omega
            have hx := HFIN.out u hTu
            have HX := Lib.hid hx
            have HCO := Lib.hid (fun (W : World) h1 h2 => HCOM.out W u huN h1 h2)
            have h1w := h1.below B1 (Nat.le_refl _)
            have h2w := h2.below B1 (Nat.le_refl _)
            have d1w := keep B1 d1
            have d2w := keep B1 d2
            have e1 : ∀ z : Ext w1, z.w.cell? ⟨w.heap.size, 1, none⟩ = some (.int .i64 (N : Int)) := fun z => z.cell (G 1)
            have e2 : ∀ z : Ext w1, z.w.cell? ⟨w.heap.size, 2, none⟩ = some (.slice a1 l1.length c1) := fun z => z.cell (G 2)
            have e4 : ∀ z : Ext w1, z.w.cell? ⟨w.heap.size, 4, none⟩ = some (.slice a2 l2.length c2) := fun z => z.cell (G 4)
            have e8 : ∀ z : Ext w1, z.w.cell? ⟨w.heap.size, 8, none⟩ = some (.int .i64 (sn : Int)) := fun z => z.cell (G 8)
            have f1 : ∀ z : Ext w1, z.w.cell? ⟨b1', off1 + sn, none⟩ = some (.int .i64 y1) := fun z => z.cell d1w
            have f2 : ∀ z : Ext w1, z.w.cell? ⟨b2', off2 + cm, none⟩ = some (.int .i64 y2) := fun z => z.cell d2w
            have QA := Lib.hid (fun z : Ext w1 => HAL.out z.w (z.ints h1w))
            clear hid hTu hx d1 d2 d1w d2w hjl huN
            go_wp2_with fail
            refine wp_region_ext _ (by kernel_rfl) (by kernel_rfl) ?_
            repeat (first | go_big_quiet_skip | (go_big_quiet_want; go_big_quiet_op; first | go_big_quiet_on | (apply Exists.intro; refine ⟨fun _ => ?_, ?_⟩; (go_at_call 127; exact ext_call (QA.out _)); go_big_quiet_on)))
            refine wpQuiet_nil ?_
            rintro w3 ⟨⟨w3, hb3⟩, rfl⟩
            try dsimp only
            have B3 := B1.after hb3 B1.size
            have K3 := K1.keep hb3
            clear G e1 e2 e4 e8 f1 f2
            have G := K3.cell
            go_wp2_with fail
            refine (HCO.out w3 (h1.below B3 (Nat.le_refl _)) (h2.below B3 (Nat.le_refl _))).mono ?_
            rintro e w4 ⟨rfl, b4⟩
            have B4 := B3.after b4 B3.size
            have K4 := K3.keep b4
            clear G
            have G := K4.cell
            cases hfr : (freeB l1 u && freeB l2 u) with
            | false =>
              rw [hfr] at HX
              go_wp2
              go_ret
              exact ⟨ret_bool HX.out.symm, B4⟩
            | true =>
              rw [hfr] at HX
              go_wp2
              go_ret
              exact ⟨ret_bool HX.out.symm, B4⟩
end Go.Proofs.YtipejodijbjpcaaGreatDoor
end
section
namespace Go.Proofs.YtipejodijbjpcaaGreatDoor
open Go.RowKit Go.G5

set_option maxHeartbeats 2000000 in
set_option maxRecDepth 100000 in
theorem chkHallI_any (w : World) (k n1 : Int) (v1 : Value) (l1 : List Int) (h1 : Ints w v1 l1) (n2 : Int) (v2 : Value) (l2 : List Int) (h2 : Ints w v2 l2) (n3 : Int) (v3 : Value) (l3 : List Int) (h3 : Ints w v3 l3) (q st : Int) (v4 : Value) (l4 : List Int) (h4 : Ints w v4 l4) :
    Calls Tryz.prog 142 #[clV k n1 v1 n2 v2 n3 v3 q st v4] w fun e w' => e = .returned (.bool (chkHall n3 l3 q l4)) ∧ Below w.heap.size w w' := by
  obtain ⟨a1, c1, rfl⟩ := h1.shape
  obtain ⟨a2, c2, rfl⟩ := h2.shape
  obtain ⟨a3, c3, rfl⟩ := h3.shape
  obtain ⟨a4, c4, rfl⟩ := h4.shape
  have K0 := Blk.new w 49 (clC k n1 (.slice a1 l1.length c1) n2 (.slice a2 l2.length c2) n3 (.slice a3 l3.length c3) q st (.slice a4 l4.length c4))
  obtain ⟨V0, hV0⟩ : ∃ V, V = (w.alloc (.cells (clC k n1 (.slice a1 l1.length c1) n2 (.slice a2 l2.length c2) n3 (.slice a3 l3.length c3) q st (.slice a4 l4.length c4)) 49)).alloc (.cells #[.int .i64 n3, .slice a3 l3.length c3] 27) := ⟨_, rfl⟩
  have B0 : Below w.heap.size w V0 := by rw [hV0]; exact bl2 _ _ _
  have K0' : Blk V0 w.heap.size 49 (clC k n1 (.slice a1 l1.length c1) n2 (.slice a2 l2.length c2) n3 (.slice a3 l3.length c3) q st (.slice a4 l4.length c4)) := by rw [hV0]; exact K0.alloc _
  have KF : Blk V0 (w.heap.size + 1) 27 #[.int .i64 n3, .slice a3 l3.length c3] := by
    rw [hV0]
    have := Blk.new (w.alloc (.cells (clC k n1 (.slice a1 l1.length c1) n2 (.slice a2 l2.length c2) n3 (.slice a3 l3.length c3) q st (.slice a4 l4.length c4)) 49)) 27 #[.int .i64 n3, .slice a3 l3.length c3]
    simpa using this
  have hfn := isFamI_any n3 l3 _ V0 (h3.below B0 (Nat.le_refl _))
  have HV0 := Lib.hid hV0
  have hfn2 : ∀ V, V = V0 → Calls Tryz.prog 90 #[.agg #[.int .i64 n3, .slice a3 l3.length c3]] V fun e w' => e = .returned (.bool (isFamB n3 l3)) ∧ Below V.heap.size V w' := fun V h => by rw [h]; exact hfn
  have HFM := Lib.hid hfn2
  clear hfn hfn2 hV0 K0
  cases hf : isFamB n3 l3 with
  | false =>
    have hx : chkHall n3 l3 q l4 = false := by unfold chkHall; rw [hf]; rfl
    rw [hf] at HFM
    have HX := Lib.hid hx
    clear hx hf
    go_enter Tryz.func142, Tryz.ntmps142
    go_wp2_with fail
    refine (HFM.out _ HV0.out.symm).mono ?_
    rintro e w1 ⟨rfl, b1⟩
    rw [HV0.out.symm] at b1
    have B1 := B0.after b1 B0.size
    have K1 := K0'.keep b1
    have G := K1.cell
    have KF1 := KF.keep b1
    have F := KF1.cell
    go_wp2
    go_ret
    exact ⟨ret_bool HX.out.symm, B1⟩
  | true =>
    rw [hf] at HFM
    have hm := fam_mem hf
    by_cases hq1 : q = 1
    · have hx : chkHall n3 l3 q l4 = isRepB n3 l3 l4 := by unfold chkHall; rw [hf, if_pos hq1]; rfl
      have t1 : (q == 1) = true := by rw [hq1]; rfl
      have hrp := fun W (g3 : Ints W (.slice a3 l3.length c3) l3) (g4 : Ints W (.slice a4 l4.length c4) l4) => isRepI_any W n3 _ _ l3 l4 g3 g4
      have HX := Lib.hid hx
      have HRP := Lib.hid hrp
      clear hx hf hm hq1 hrp
      go_enter Tryz.func142, Tryz.ntmps142
      go_wp2_with fail
      refine (HFM.out _ HV0.out.symm).mono ?_
      rintro e w1 ⟨rfl, b1⟩
      rw [HV0.out.symm] at b1
      have B1 := B0.after b1 B0.size
      have K1 := K0'.keep b1
      have G := K1.cell
      have KF1 := KF.keep b1
      have F := KF1.cell
      have h3w := h3.below B1 (Nat.le_refl _)
      have h4w := h4.below B1 (Nat.le_refl _)
      go_wp2_with (go_at_call 256; refine (HRP.out _ h3w h4w).mono ?_; rintro e w' ⟨rfl, rfl⟩)
      go_ret
      exact ⟨ret_bool HX.out.symm, B1⟩
    · have t1 : (q == 1) = false := by simpa using hq1
      have hx : chkHall n3 l3 q l4 = ((q == 0 && decide (l3.length ≤ 6)) && hallT l3 l4) := by unfold chkHall; rw [hf, if_neg hq1]; rfl
      cases hq0 : q == 0 with
      | false =>
        have t0 : (q != 0) = true := by rw [bne, hq0]; rfl
        rw [hq0] at hx
        have HX := Lib.hid hx
        clear hx hf hm hq1 hq0
        go_enter Tryz.func142, Tryz.ntmps142
        go_wp2_with fail
        refine (HFM.out _ HV0.out.symm).mono ?_
        rintro e w1 ⟨rfl, b1⟩
        rw [HV0.out.symm] at b1
        have B1 := B0.after b1 B0.size
        have K1 := K0'.keep b1
        have G := K1.cell
        have KF1 := KF.keep b1
        have F := KF1.cell
        go_wp2
        go_ret
        exact ⟨ret_bool HX.out.symm, B1⟩
      | true =>
        have t0 : (q != 0) = false := by rw [bne, hq0]; rfl
        rw [hq0, Bool.true_and] at hx
        by_cases h6 : l3.length ≤ 6
        · have t6 : ¬ (6 : Int) < (l3.length : Int) := by omega
          rw [decide_eq_true h6, Bool.true_and] at hx
          have hok := idx_ok l3.length h6 l4 0 (Nat.two_pow_pos _)
          obtain ⟨T, hT⟩ : ∃ T, T = idxL (l3.length : Int) l4 0 := ⟨_, rfl⟩
          rw [← hT] at hok
          have hxT : chkHall n3 l3 q l4 = (decide (0 < T) && decide (ipop (unionTo l3 T.toNat l3.length) < ipop T)) := by rw [hx, hT]; rfl
          have hneg : T = -1 → chkHall n3 l3 q l4 = false := fun h => by rw [hxT, h]; rfl
          by_cases hl1 : 1 ≤ l4.length
          · have tl : ¬ (l4.length : Int) < 1 := by omega
            have hst : idxL (l3.length : Int) (l4.drop 0) 0 = T := by rw [List.drop_zero]; exact hT.symm
            have h64 : (2 : Nat) ^ l3.length ≤ 2 ^ 6 := Nat.pow_le_pow_right (by decide) h6
            have hfin : ∀ u : Nat, T = (u : Int) → u < 64 → chkHall n3 l3 q l4 = decide (0 < (pop u : Int) - ipop (unionTo l3 u l3.length)) := fun u h hu => by
              rw [hxT, h, Int.toNat_natCast]
              have hp : ipop (u : Int) = (pop u : Int) := by unfold ipop; rw [Int.toNat_natCast]
              have hpos : 0 < u := by
                rcases hok with h' | ⟨s, hs, _, hs3⟩
                · omega
                · have e : s = u := by omega
                  rw [e, pop_zero] at hs3
                  by_cases h0 : u = 0
                  · rw [h0, pop_zero] at hs3; omega
                  · omega
              rw [decide_eq_true (show (0 : Int) < (u : Int) by omega), Bool.true_and, hp]
              rw [Bool.eq_iff_iff, decide_eq_true_eq, decide_eq_true_eq]
              omega
            have hlk := fun (W : World) (u : Nat) (hu : u < 64) (g : Ints W (.slice a3 l3.length c3) l3) => lackOf_any l3 _ W g hm h6 u hu
            obtain ⟨_, b4', off4, _, hve, _, hix4, hc4, hb4⟩ := h4.view Tryz.prog 22 3 Tryz.underlying22 intElem
            injection hve with x1 _ x3
            subst x1 x3
            have HNEG := Lib.hid hneg
            have HFIN := Lib.hid hfin
            have HLK := Lib.hid hlk
            have HC4 := Lib.hid hc4
            have HIX4 := Lib.hid hix4
            have HST := Lib.hid hst
            clear hx hf hm hq1 hq0 hok hT hxT hneg hst h64 hfin hlk hc4 hix4
            go_enter Tryz.func142, Tryz.ntmps142
            go_wp2_with fail
            refine (HFM.out _ HV0.out.symm).mono ?_
            rintro e w1 ⟨rfl, b1⟩
            rw [HV0.out.symm] at b1
            have B1 := B0.after b1 B0.size
            have K1 := K0'.keep b1
            have G := K1.cell
            have KF1 := KF.keep b1
            have F := KF1.cell
            go_wp2_with fail
            go_loop [4, 40] (fun uv iv => ∃ (j u : Nat), j ≤ l4.length ∧ iv = .int .i64 j ∧ uv = .int .i64 (u : Int) ∧ u < 64 ∧ idxL (l3.length : Int) (l4.drop j) u = T) (fun _ iv => l4.length - (intOf iv).toNat)
            case atStart => exact ⟨0, 0, Nat.zero_le _, rfl, rfl, by omega, HST.out⟩
            case round =>
              obtain ⟨j, u, hj, rfl, rfl, hu, hid⟩ := hrel
              by_cases hlt : j < l4.length
              · have hlt2 : (j : Int) < (l4.length : Int) := by omega
                have ck : w1.cell? ⟨b4', off4 + j, none⟩ = some (.int .i64 l4[j]) := cells_below HC4.out hb4 B1 (Nat.le_refl _) j hlt
                have ik := fun W => HIX4.out W j hlt
                have hat := idx_at (l3.length : Int) l4 j hlt u
                rw [hid] at hat
                have hu64 : u < 64 := hu
                obtain ⟨x, hx⟩ : ∃ x, x = l4[j] := ⟨_, rfl⟩
                rw [← hx] at ck hat
                clear hx
                obtain ⟨el, hel⟩ : ∃ b, b = isElB (l3.length : Int) x := ⟨_, rfl⟩
                have hei : ∀ W, Calls Tryz.prog 248 #[.int .i64 (l3.length : Int), .int .i64 x] W fun e' w' => e' = .returned (.bool el) ∧ W = w' := fun W => by rw [hel]; exact isElem_any (l3.length : Int) x W
                have HEI := Lib.hid hei
                have hib : idxB (l3.length : Int) u x = (el && !nbit u x.toNat) := by unfold idxB; rw [hel]
                clear hei hid
                cases el with
                | false =>
                  have hT : T = -1 := by rw [hat, hib]; rfl
                  have HT := Lib.hid hT
                  clear hT hat hib hel
                  go_wp2_with (go_at_call 248; refine (HEI.out _).mono ?_; rintro e w' ⟨rfl, rfl⟩)
                  go_ret
                  exact ⟨ret_bool (HNEG.out HT.out).symm, B1⟩
                | true =>
                  obtain ⟨e, rfl, heN⟩ := el_nat hel.symm
                  have he6 : e < 6 := by omega
                  rw [Int.toNat_natCast] at hat hib
                  have hbu := bit_is (u : Int) e (by omega) (by omega)
                  have hnu := nbit_is u e
                  have hset := setBit_is u e (by omega) he6
                  have hp := pow2_bd' (e : Int) (by omega)
                  rw [Int.toNat_natCast] at hp
                  have hp1 := hp.1
                  have hp2 := hp.2
                  have hs64 := setBit_64 u hu64 e he6
                  obtain ⟨z, hz⟩ : ∃ y, y = ibit (u : Int) e := ⟨_, rfl⟩
                  rw [← hz] at hbu hnu
                  clear hz hp heN hel
                  cases h2 : nbit u e with
                  | true =>
                    have t2 : (z == 1) = true := by rw [hnu, h2]
                    have hT : T = -1 := by rw [hat, hib, h2]; rfl
                    have HT := Lib.hid hT
                    clear hT hat hib h2 hnu
                    go_wp2_with (go_at_call 248; refine (HEI.out _).mono ?_; rintro e w' ⟨rfl, rfl⟩)
                    go_ret
                    exact ⟨ret_bool (HNEG.out HT.out).symm, B1⟩
                  | false =>
                    have t2 : (z == 1) = false := by rw [hnu, h2]
                    have hT : idxL (l3.length : Int) (l4.drop (j + 1)) (setBit u e) = T := by rw [hat, hib, h2]; rfl
                    obtain ⟨u2, hu2⟩ : ∃ q, q = setBit u e := ⟨_, rfl⟩
                    rw [← hu2] at hset hs64 hT
                    have HT := Lib.hid hT
                    clear hT hat hib h2 hnu hu2
                    go_wp2_with (go_at_call 248; refine (HEI.out _).mono ?_; rintro e w' ⟨rfl, rfl⟩)
                    go_round
                    case rel => exact ⟨j + 1, u2, by omega, by go_num, rfl, hs64, HT.out⟩
                    case measure => simp [intOf]; omega
              · have hlt2 : ¬ (j : Int) < (l4.length : Int) := by omega
                have hjl : j = l4.length := by omega
                rw [hjl, List.drop_length] at hid
                have hTu : T = (u : Int) := hid.symm
                have hx := HFIN.out u hTu hu
                have hlo := HLK.out w1 u hu (h3.below B1 (Nat.le_refl _))
                obtain ⟨D, hD⟩ : ∃ D, D = (pop u : Int) - ipop (unionTo l3 u l3.length) := ⟨_, rfl⟩
                rw [← hD] at hx hlo
                have HX := Lib.hid hx
                have HLO := Lib.hid hlo
                clear hid hTu hx hlo hD hjl
                go_wp2_with (go_at_call 257; refine HLO.out.mono ?_; rintro e w' ⟨rfl, rfl⟩)
                go_ret
                exact ⟨ret_bool HX.out.symm, B1⟩
          · have tl : (l4.length : Int) < 1 := by omega
            have hnil : l4 = [] := List.eq_nil_of_length_eq_zero (by omega)
            have hx2 : chkHall n3 l3 q l4 = false := by rw [hxT, hT, hnil]; rfl
            have HX := Lib.hid hx2
            clear hx hf hm hq1 hq0 hok hT hxT hneg hnil hx2 hl1
            go_enter Tryz.func142, Tryz.ntmps142
            go_wp2_with fail
            refine (HFM.out _ HV0.out.symm).mono ?_
            rintro e w1 ⟨rfl, b1⟩
            rw [HV0.out.symm] at b1
            have B1 := B0.after b1 B0.size
            have K1 := K0'.keep b1
            have G := K1.cell
            have KF1 := KF.keep b1
            have F := KF1.cell
            go_wp2
            go_ret
            exact ⟨ret_bool HX.out.symm, B1⟩
        · have t6 : (6 : Int) < (l3.length : Int) := by omega
          rw [decide_eq_false h6, Bool.false_and] at hx
          have HX := Lib.hid hx
          clear hx hf hm hq1 hq0 h6
          go_enter Tryz.func142, Tryz.ntmps142
          go_wp2_with fail
          refine (HFM.out _ HV0.out.symm).mono ?_
          rintro e w1 ⟨rfl, b1⟩
          rw [HV0.out.symm] at b1
          have B1 := B0.after b1 B0.size
          have K1 := K0'.keep b1
          have G := K1.cell
          have KF1 := KF.keep b1
          have F := KF1.cell
          go_wp2
          go_ret
          exact ⟨ret_bool HX.out.symm, B1⟩

set_option maxHeartbeats 2000000 in
set_option maxRecDepth 100000 in
theorem checkClaimI_c (w : World) (k n1 : Int) (v1 : Value) (l1 : List Int) (h1 : Ints w v1 l1) (n2 : Int) (v2 : Value) (l2 : List Int) (h2 : Ints w v2 l2) (n3 : Int) (v3 : Value) (l3 : List Int) (h3 : Ints w v3 l3) (q st : Int) (v4 : Value) (l4 : List Int) (h4 : Ints w v4 l4) (hl1 : l1.length ≤ 1048576) (hl2 : l2.length ≤ 1048576) (hl3 : l3.length ≤ 1048576) :
    Calls Tryz.prog 27 #[clV k n1 v1 n2 v2 n3 v3 q st v4] w fun e w' => e = .returned (.bool (chkB k n1 l1 n2 l2 n3 l3 q st l4)) ∧ Below w.heap.size w w' := by
  obtain ⟨a1, c1, rfl⟩ := h1.shape
  obtain ⟨a2, c2, rfl⟩ := h2.shape
  obtain ⟨a3, c3, rfl⟩ := h3.shape
  obtain ⟨a4, c4, rfl⟩ := h4.shape
  have K0 := Blk.new w 49 (clC k n1 (.slice a1 l1.length c1) n2 (.slice a2 l2.length c2) n3 (.slice a3 l3.length c3) q st (.slice a4 l4.length c4))
  have g1 := h1.alloc (.cells (clC k n1 (.slice a1 l1.length c1) n2 (.slice a2 l2.length c2) n3 (.slice a3 l3.length c3) q st (.slice a4 l4.length c4)) 49)
  have g2 := h2.alloc (.cells (clC k n1 (.slice a1 l1.length c1) n2 (.slice a2 l2.length c2) n3 (.slice a3 l3.length c3) q st (.slice a4 l4.length c4)) 49)
  have g3 := h3.alloc (.cells (clC k n1 (.slice a1 l1.length c1) n2 (.slice a2 l2.length c2) n3 (.slice a3 l3.length c3) q st (.slice a4 l4.length c4)) 49)
  have g4 := h4.alloc (.cells (clC k n1 (.slice a1 l1.length c1) n2 (.slice a2 l2.length c2) n3 (.slice a3 l3.length c3) q st (.slice a4 l4.length c4)) 49)
  have m1 := chkMinI_any _ k n1 _ l1 g1 n2 _ l2 g2 n3 _ l3 g3 q st _ l4 g4
  have m2 := chkVioI_any _ k n1 _ l1 g1 n2 _ l2 g2 n3 _ l3 g3 q st _ l4 g4
  have m3 := chkBaseI_any _ k n1 _ l1 g1 n2 _ l2 g2 n3 _ l3 g3 q st _ l4 g4 hl1 hl2
  have m4 := chkComI_any _ k n1 _ l1 g1 n2 _ l2 g2 n3 _ l3 g3 q st _ l4 g4 hl1 hl2
  have m5 := chkCutI_any _ k n1 _ l1 g1 n2 _ l2 g2 n3 _ l3 g3 q st _ l4 g4 hl1
  have m6 := chkSunI_any _ k n1 _ l1 g1 n2 _ l2 g2 n3 _ l3 g3 q st _ l4 g4 hl3
  have m7 := chkHallI_any _ k n1 _ l1 g1 n2 _ l2 g2 n3 _ l3 g3 q st _ l4 g4
  have M1 := Lib.hid m1
  have M2 := Lib.hid m2
  have M3 := Lib.hid m3
  have M4 := Lib.hid m4
  have M5 := Lib.hid m5
  have M6 := Lib.hid m6
  have M7 := Lib.hid m7
  clear m1 m2 m3 m4 m5 m6 m7
  by_cases hk1 : k = 1
  · subst hk1
    have HX := Lib.hid (show chkB 1 n1 l1 n2 l2 n3 l3 q st l4 = chkMin n1 l1 q st l4 from rfl)
    go_enter Tryz.func27, Tryz.ntmps27
    go_wp2_with fail
    refine M1.out.mono ?_
    rintro e w1 ⟨rfl, b1⟩
    go_wp2
    go_ret
    exact ⟨ret_bool HX.out.symm, (bl1 _ _).after b1 (by simp)⟩
  by_cases hk2 : k = 2
  · subst hk2
    have HX := Lib.hid (show chkB 2 n1 l1 n2 l2 n3 l3 q st l4 = chkVio n1 l1 l4 from rfl)
    go_enter Tryz.func27, Tryz.ntmps27
    go_wp2_with fail
    refine M2.out.mono ?_
    rintro e w1 ⟨rfl, b1⟩
    go_wp2
    go_ret
    exact ⟨ret_bool HX.out.symm, (bl1 _ _).after b1 (by simp)⟩
  by_cases hk3 : k = 3
  · subst hk3
    have HX := Lib.hid (show chkB 3 n1 l1 n2 l2 n3 l3 q st l4 = chkBase n1 l1 n2 l2 q l4 from rfl)
    go_enter Tryz.func27, Tryz.ntmps27
    go_wp2_with fail
    refine M3.out.mono ?_
    rintro e w1 ⟨rfl, b1⟩
    go_wp2
    go_ret
    exact ⟨ret_bool HX.out.symm, (bl1 _ _).after b1 (by simp)⟩
  by_cases hk4 : k = 4
  · subst hk4
    have HX := Lib.hid (show chkB 4 n1 l1 n2 l2 n3 l3 q st l4 = chkCom n1 l1 n2 l2 q st l4 from rfl)
    go_enter Tryz.func27, Tryz.ntmps27
    go_wp2_with fail
    refine M4.out.mono ?_
    rintro e w1 ⟨rfl, b1⟩
    go_wp2
    go_ret
    exact ⟨ret_bool HX.out.symm, (bl1 _ _).after b1 (by simp)⟩
  by_cases hk5 : k = 5
  · subst hk5
    have HX := Lib.hid (show chkB 5 n1 l1 n2 l2 n3 l3 q st l4 = chkCut n1 l1 q st from rfl)
    go_enter Tryz.func27, Tryz.ntmps27
    go_wp2_with fail
    refine M5.out.mono ?_
    rintro e w1 ⟨rfl, b1⟩
    go_wp2
    go_ret
    exact ⟨ret_bool HX.out.symm, (bl1 _ _).after b1 (by simp)⟩
  by_cases hk6 : k = 6
  · subst hk6
    have HX := Lib.hid (show chkB 6 n1 l1 n2 l2 n3 l3 q st l4 = chkSun n3 l3 q l4 from rfl)
    go_enter Tryz.func27, Tryz.ntmps27
    go_wp2_with fail
    refine M6.out.mono ?_
    rintro e w1 ⟨rfl, b1⟩
    go_wp2
    go_ret
    exact ⟨ret_bool HX.out.symm, (bl1 _ _).after b1 (by simp)⟩
  by_cases hk7 : k = 7
  · subst hk7
    have HX := Lib.hid (show chkB 7 n1 l1 n2 l2 n3 l3 q st l4 = chkHall n3 l3 q l4 from rfl)
    go_enter Tryz.func27, Tryz.ntmps27
    go_wp2_with fail
    refine M7.out.mono ?_
    rintro e w1 ⟨rfl, b1⟩
    go_wp2
    go_ret
    exact ⟨ret_bool HX.out.symm, (bl1 _ _).after b1 (by simp)⟩
  have hx : chkB k n1 l1 n2 l2 n3 l3 q st l4 = false := by unfold chkB; rw [if_neg hk1, if_neg hk2, if_neg hk3, if_neg hk4, if_neg hk5, if_neg hk6, if_neg hk7]
  have HX := Lib.hid hx
  have s1 : (k == 1) = false := by simpa using hk1
  have s2 : (k == 2) = false := by simpa using hk2
  have s3 : (k == 3) = false := by simpa using hk3
  have s4 : (k == 4) = false := by simpa using hk4
  have s5 : (k == 5) = false := by simpa using hk5
  have s6 : (k == 6) = false := by simpa using hk6
  have s7 : (k == 7) = false := by simpa using hk7
  clear hx hk1 hk2 hk3 hk4 hk5 hk6 hk7
  go_enter Tryz.func27, Tryz.ntmps27
  go_wp2
  go_ret
  exact ⟨ret_bool HX.out.symm, bl1 _ _⟩
end Go.Proofs.YtipejodijbjpcaaGreatDoor
end
