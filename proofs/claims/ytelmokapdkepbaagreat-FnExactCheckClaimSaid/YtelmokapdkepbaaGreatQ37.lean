/- The check of claims: violations: the second program. -/
import Derived.Test.YtelmokapdkepbaaGreatQ36
section
namespace Go.Proofs.YtelmokapdkepbaaGreat
open Go.RowKit Go.G5

set_option maxHeartbeats 4000000 in
set_option maxRecDepth 100000 in
theorem chkS2_any (w : World) (n1 : Int) (v1 : Value) (l1 : List Int) (h1 : Ints w v1 l1) (n2 : Int) (v2 : Value) (l2 : List Int) (h2 : Ints w v2 l2) (n3 : Int) (v3 : Value) (l3 : List Int) (h3 : Ints w v3 l3) (q st : Int) (v4 : Value) (l4 : List Int) (h4 : Ints w v4 l4) :
    Calls Tryz.prog 5 #[clV 2 n1 v1 n2 v2 n3 v3 q st v4] w fun e w' => e = .returned (.bool (chkVio n1 l1 l4)) ∧ Below w.heap.size w w' := by
  obtain ⟨a1, c1, rfl⟩ := h1.shape
  obtain ⟨a2, c2, rfl⟩ := h2.shape
  obtain ⟨a3, c3, rfl⟩ := h3.shape
  obtain ⟨a4, c4, rfl⟩ := h4.shape
  have K0 := Blk.new w 34 (clC 2 n1 (.slice a1 l1.length c1) n2 (.slice a2 l2.length c2) n3 (.slice a3 l3.length c3) q st (.slice a4 l4.length c4))
  obtain ⟨V0, hV0⟩ : ∃ V, V = (w.alloc (.cells (clC 2 n1 (.slice a1 l1.length c1) n2 (.slice a2 l2.length c2) n3 (.slice a3 l3.length c3) q st (.slice a4 l4.length c4)) 34)).alloc (.cells #[.int .i64 n1, .slice a1 l1.length c1] 31) := ⟨_, rfl⟩
  have B0 : Below w.heap.size w V0 := by rw [hV0]; exact bl2 _ _ _
  have K0' : Blk V0 w.heap.size 34 (clC 2 n1 (.slice a1 l1.length c1) n2 (.slice a2 l2.length c2) n3 (.slice a3 l3.length c3) q st (.slice a4 l4.length c4)) := by rw [hV0]; exact K0.alloc _
  have KF : Blk V0 (w.heap.size + 1) 31 #[.int .i64 n1, .slice a1 l1.length c1] := by
    rw [hV0]
    have := Blk.new (w.alloc (.cells (clC 2 n1 (.slice a1 l1.length c1) n2 (.slice a2 l2.length c2) n3 (.slice a3 l3.length c3) q st (.slice a4 l4.length c4)) 34)) 31 #[.int .i64 n1, .slice a1 l1.length c1]
    simpa using this
  have HV0 := Lib.hid hV0
  have g1 := h1.below B0 (Nat.le_refl _)
  have g2 := h2.below B0 (Nat.le_refl _)
  have g3 := h3.below B0 (Nat.le_refl _)
  have g4 := h4.below B0 (Nat.le_refl _)
  clear hV0 K0
  have G0 := K0'.cell
  have F0 := KF.cell
  have e9 : ∀ z : Ext V0, z.w.cell? ⟨w.heap.size, 9, none⟩ = some (.slice a4 l4.length c4) := fun z => z.cell (G0 9)
  have f0 : ∀ z : Ext V0, z.w.cell? ⟨w.heap.size + 1, 0, none⟩ = some (.int .i64 n1) := fun z => z.cell (F0 0)
  have f1 : ∀ z : Ext V0, z.w.cell? ⟨w.heap.size + 1, 1, none⟩ = some (.slice a1 l1.length c1) := fun z => z.cell (F0 1)
  have QN := fun z : Ext V0 => isFunS_any n1 l1 _ z.w (z.ints g1)
  have QB := Lib.hid G0
  have QFF := Lib.hid F0
  clear G0 F0
  cases hf : isFunB n1 l1 with
  | false =>
    have hx : chkVio n1 l1 l4 = false := by unfold chkVio; rw [hf]; rfl
    simp only [hf] at QN
    have QN := Lib.hid QN
    have HX := Lib.hid hx
    clear hx hf
    go_enter Tryz.func5, Tryz.ntmps5
    go_wp2_with fail
    rw [HV0.out.symm]
    refine wp_region_ext _ (by kernel_rfl) (by kernel_rfl) ?_
    repeat (first | go_big_quiet_skip | (go_big_quiet_want; go_big_quiet_op; first | go_big_quiet_on | (apply Exists.intro; refine ⟨fun _ => ?_, ?_⟩; (go_at_call 16; exact ext_call (QN.out _)); go_big_quiet_on)))
    refine wpQuiet_nil ?_
    rintro w3 ⟨⟨w3, hb3⟩, rfl⟩
    try dsimp only
    go_wp2
    go_ret
    exact ⟨ret_bool HX.out.symm, B0.after hb3 B0.size⟩
  | true =>
    simp only [hf] at QN
    obtain ⟨N, rfl, hN, hll, hq2, hbd⟩ := fun_nat hf
    have QN := Lib.hid QN
    by_cases h3l : l4.length = 3
    · have hx : chkVio (N : Int) l1 l4 = (vioS (N : Int) (l4.getD 0 0) (l4.getD 1 0) (l4.getD 2 0) && vioT l1 (l4.getD 0 0) (l4.getD 1 0) (l4.getD 2 0)) := by unfold chkVio; rw [hf, decide_eq_true h3l]; rfl
      have ht3 : ((l4.length : Int) != 3) = false := by rw [h3l]; rfl
      obtain ⟨b, off, d0, d1, d2, i0, i1, i2⟩ := zero_cells g4 22 3 Tryz.underlying22 intElem h3l
      obtain ⟨s, hs⟩ : ∃ s, s = l4.getD 0 0 := ⟨_, rfl⟩
      obtain ⟨i, hi⟩ : ∃ s, s = l4.getD 1 0 := ⟨_, rfl⟩
      obtain ⟨j, hj⟩ : ∃ s, s = l4.getD 2 0 := ⟨_, rfl⟩
      rw [← hs] at hx d0
      rw [← hi] at hx d1
      rw [← hj] at hx d2
      have y0 : ∀ z : Ext V0, z.w.cell? ⟨b, off, none⟩ = some (.int .i64 s) := fun z => z.cell d0
      have y1 : ∀ z : Ext V0, z.w.cell? ⟨b, off + 1, none⟩ = some (.int .i64 i) := fun z => z.cell d1
      have y2 : ∀ z : Ext V0, z.w.cell? ⟨b, off + 2, none⟩ = some (.int .i64 j) := fun z => z.cell d2
      have Q5 := fun z : Ext V0 => l5InS_any z.w (N : Int) _ l1 (z.ints g1) s
      simp only [hf, Int.toNat_natCast, Bool.true_and] at Q5
      have hwn : IntKind.i64.wrap ((N : Int) - 1) = (N : Int) - 1 := by rw [IntKind.wrap_i64]; omega
      have hbs : vioS (N : Int) s i j = (((isSet N s && isElB (N : Int) i) && isElB (N : Int) j) && i != j) := by unfold vioS; rw [Int.toNat_natCast]
      obtain ⟨bS, hbS⟩ : ∃ b, b = isSet N s := ⟨_, rfl⟩
      obtain ⟨bI, hbI⟩ : ∃ b, b = isElB (N : Int) i := ⟨_, rfl⟩
      obtain ⟨bK, hbK⟩ : ∃ b, b = isElB (N : Int) j := ⟨_, rfl⟩
      simp only [← hbS] at Q5
      have Q5 := Lib.hid Q5
      have QI : ∀ z : Ext V0, Calls Tryz.prog 17 #[.int .i64 i, .int .i64 0, .int .i64 ((N : Int) - 1)] z.w fun e' w' => e' = .returned (.bool bI) ∧ z.w = w' := fun z => by
        have := l1In_any i 0 ((N : Int) - 1) z.w
        rw [elem_inB] at this
        rw [hbI]; exact this
      have QK : ∀ z : Ext V0, Calls Tryz.prog 17 #[.int .i64 j, .int .i64 0, .int .i64 ((N : Int) - 1)] z.w fun e' w' => e' = .returned (.bool bK) ∧ z.w = w' := fun z => by
        have := l1In_any j 0 ((N : Int) - 1) z.w
        rw [elem_inB] at this
        rw [hbK]; exact this
      have QI := Lib.hid QI
      have QK := Lib.hid QK
      rw [← hbS, ← hbI, ← hbK] at hbs
      have hvb := fun (si ii ji : Nat) (u1 : si < 2 ^ N) (u2 : ii < N) (u3 : ji < N) (W : World) (h : Ints W (.slice a1 l1.length c1) l1) => l3Bad_any N hN l1 _ W h hll hbd si ii ji u1 u2 u3
      have HVB := Lib.hid hvb
      have HBS := Lib.hid hbS
      have HBI := Lib.hid hbI
      have HBK := Lib.hid hbK
      have HD := Lib.hid (And.intro d0 (And.intro d1 d2))
      clear hvb h3l hs hi hj hll hq2 hbd hf hbS hbI hbK d0 d1 d2
      by_cases hall : (bS = true ∧ bI = true) ∧ bK = true
      · obtain ⟨⟨hS, hI⟩, hK⟩ := hall
        subst hS hI hK
        have hx1 : chkVio (N : Int) l1 l4 = (i != j && vioT l1 s i j) := by rw [hx, hbs]; rfl
        obtain ⟨si, rfl, hsi⟩ := set_nat HBS.out.symm
        obtain ⟨ii, rfl, hii⟩ := el_nat HBI.out.symm
        obtain ⟨ji, rfl, hji⟩ := el_nat HBK.out.symm
        have hv : vioT l1 (si : Int) (ii : Int) (ji : Int) = ((!nbit si ii && !nbit si ji) && badB l1 (si, ii, ji)) := by unfold vioT; simp only [Int.toNat_natCast]
        have hxx := HVB.out si ii ji hsi hii hji
        obtain ⟨bad, hbad⟩ : ∃ b, b = badB l1 (si, ii, ji) := ⟨_, rfl⟩
        simp only [← hbad] at hxx
        rw [← hbad] at hv
        have h32 : (2 : Nat) ^ N ≤ 2 ^ 5 := Nat.pow_le_pow_right (by decide) hN
        have hb1 := bit_is (si : Int) ii (by omega) (by omega)
        have hb2 := bit_is (si : Int) ji (by omega) (by omega)
        have hz1 := ibit_zero si ii
        have hz2 := ibit_zero si ji
        obtain ⟨z1, hz1e⟩ : ∃ y, y = ibit (si : Int) ii := ⟨_, rfl⟩
        obtain ⟨z2, hz2e⟩ : ∃ y, y = ibit (si : Int) ji := ⟨_, rfl⟩
        rw [← hz1e] at hb1 hz1
        rw [← hz2e] at hb2 hz2
        rw [hv, ← hz1, ← hz2] at hx1
        have hcj : ((ii : Int) != (ji : Int)) = (ii != ji) := by rw [Bool.eq_iff_iff, bne_iff_ne, bne_iff_ne]; omega
        obtain ⟨bE, hbE⟩ : ∃ b, b = (ii != ji) := ⟨_, rfl⟩
        obtain ⟨bZ, hbZ⟩ : ∃ b, b = (z1 == 0) := ⟨_, rfl⟩
        obtain ⟨bY, hbY⟩ : ∃ b, b = (z2 == 0) := ⟨_, rfl⟩
        have t1 : (ii != ji) = bE := hbE.symm
        have t2 : ((ii : Int) != (ji : Int)) = bE := by rw [hcj, t1]
        have t3 : (z1 == 0) = bZ := hbZ.symm
        have t4 : (z2 == 0) = bY := hbY.symm
        rw [t2, t3, t4] at hx1
        have HX := Lib.hid hx1
        have HXX := Lib.hid hxx
        have hi6 : ii < 6 := by omega
        have hj6 : ji < 6 := by omega
        have hs32 : si < 32 := by omega
        clear hx hx1 hbs hv hxx hz1 hz2 hz1e hz2e hbad hsi hii hji h32 hcj hbE hbZ hbY
        go_enter Tryz.func5, Tryz.ntmps5
        go_wp2_with fail
        rw [HV0.out.symm]
        refine wp_region_ext _ (by kernel_rfl) (by kernel_rfl) ?_
        repeat (first | go_big_quiet_skip | (go_big_quiet_want; go_big_quiet_op; first | go_big_quiet_on | (apply Exists.intro; refine ⟨fun _ => ?_, ?_⟩; (first | (go_at_call 16; exact ext_call (QN.out _)) | (go_at_call 13; exact ext_call (Q5.out _)) | (go_at_call 17; first | (with_reducible exact ext_same (QI.out _)) | (with_reducible exact ext_same (QK.out _)))); go_big_quiet_on)))
        refine wpQuiet_nil ?_
        rintro w3 ⟨⟨w3, hb3⟩, rfl⟩
        try dsimp only
        have B3 := B0.after hb3 B0.size
        have G3 := (K0'.keep hb3).cell
        have F3 := (KF.keep hb3).cell
        have d0 := keep hb3 HD.out.1
        have d1 := keep hb3 HD.out.2.1
        have d2 := keep hb3 HD.out.2.2
        have g13 := g1.keep hb3
        clear e9 f0 f1 y0 y1 y2
        go_wp2_with fail
        have e9 : ∀ z : Ext w3, z.w.cell? ⟨w.heap.size, 9, none⟩ = some (.slice a4 l4.length c4) := fun z => z.cell (G3 9)
        have f1 : ∀ z : Ext w3, z.w.cell? ⟨w.heap.size + 1, 1, none⟩ = some (.slice a1 l1.length c1) := fun z => z.cell (F3 1)
        have y1 : ∀ z : Ext w3, z.w.cell? ⟨b, off + 1, none⟩ = some (.int .i64 (ii : Int)) := fun z => z.cell d1
        have y2 : ∀ z : Ext w3, z.w.cell? ⟨b, off + 2, none⟩ = some (.int .i64 (ji : Int)) := fun z => z.cell d2
        have QX := Lib.hid (fun z : Ext w3 => HXX.out z.w (z.ints g13))
        clear G3 F3 d0 d1 d2
        cases bE with
        | false =>
          refine wp_region_ext _ (by kernel_rfl) (by kernel_rfl) ?_
          repeat (first | go_big_quiet_skip | (go_big_quiet_want; go_big_quiet_op; first | go_big_quiet_on | (apply Exists.intro; refine ⟨fun _ => ?_, ?_⟩; (go_at_call 18; exact ext_call (QX.out _)); go_big_quiet_on)))
          refine wpQuiet_nil ?_
          rintro w4 ⟨⟨w4, hb4⟩, rfl⟩
          try dsimp only
          go_wp2
          go_ret
          exact ⟨ret_bool HX.out.symm, B3.after hb4 B3.size⟩
        | true =>
          cases bZ with
          | false =>
            refine wp_region_ext _ (by kernel_rfl) (by kernel_rfl) ?_
            repeat (first | go_big_quiet_skip | (go_big_quiet_want; go_big_quiet_op; first | go_big_quiet_on | (apply Exists.intro; refine ⟨fun _ => ?_, ?_⟩; (go_at_call 18; exact ext_call (QX.out _)); go_big_quiet_on)))
            refine wpQuiet_nil ?_
            rintro w4 ⟨⟨w4, hb4⟩, rfl⟩
            try dsimp only
            go_wp2
            go_ret
            exact ⟨ret_bool HX.out.symm, B3.after hb4 B3.size⟩
          | true =>
            cases bY with
            | false =>
              refine wp_region_ext _ (by kernel_rfl) (by kernel_rfl) ?_
              repeat (first | go_big_quiet_skip | (go_big_quiet_want; go_big_quiet_op; first | go_big_quiet_on | (apply Exists.intro; refine ⟨fun _ => ?_, ?_⟩; (go_at_call 18; exact ext_call (QX.out _)); go_big_quiet_on)))
              refine wpQuiet_nil ?_
              rintro w4 ⟨⟨w4, hb4⟩, rfl⟩
              try dsimp only
              go_wp2
              go_ret
              exact ⟨ret_bool HX.out.symm, B3.after hb4 B3.size⟩
            | true =>
              refine wp_region_ext _ (by kernel_rfl) (by kernel_rfl) ?_
              repeat (first | go_big_quiet_skip | (go_big_quiet_want; go_big_quiet_op; first | go_big_quiet_on | (apply Exists.intro; refine ⟨fun _ => ?_, ?_⟩; (go_at_call 18; exact ext_call (QX.out _)); go_big_quiet_on)))
              refine wpQuiet_nil ?_
              rintro w4 ⟨⟨w4, hb4⟩, rfl⟩
              try dsimp only
              go_wp2
              go_ret
              exact ⟨ret_bool HX.out.symm, B3.after hb4 B3.size⟩
      · have hx1 : chkVio (N : Int) l1 l4 = false := by
          rw [hx, hbs]
          cases bS <;> cases bI <;> cases bK <;> simp_all
        have HX := Lib.hid hx1
        clear hx hx1 hbs
        cases bS with
        | false =>
          go_enter Tryz.func5, Tryz.ntmps5
          go_wp2_with fail
          rw [HV0.out.symm]
          refine wp_region_ext _ (by kernel_rfl) (by kernel_rfl) ?_
          repeat (first | go_big_quiet_skip | (go_big_quiet_want; go_big_quiet_op; first | go_big_quiet_on | (apply Exists.intro; refine ⟨fun _ => ?_, ?_⟩; (first | (go_at_call 16; exact ext_call (QN.out _)) | (go_at_call 13; exact ext_call (Q5.out _)) | (go_at_call 17; first | (with_reducible exact ext_same (QI.out _)) | (with_reducible exact ext_same (QK.out _)))); go_big_quiet_on)))
          refine wpQuiet_nil ?_
          rintro w3 ⟨⟨w3, hb3⟩, rfl⟩
          try dsimp only
          go_wp2
          go_ret
          exact ⟨ret_bool HX.out.symm, B0.after hb3 B0.size⟩
        | true =>
          cases bI with
          | false =>
            go_enter Tryz.func5, Tryz.ntmps5
            go_wp2_with fail
            rw [HV0.out.symm]
            refine wp_region_ext _ (by kernel_rfl) (by kernel_rfl) ?_
            repeat (first | go_big_quiet_skip | (go_big_quiet_want; go_big_quiet_op; first | go_big_quiet_on | (apply Exists.intro; refine ⟨fun _ => ?_, ?_⟩; (first | (go_at_call 16; exact ext_call (QN.out _)) | (go_at_call 13; exact ext_call (Q5.out _)) | (go_at_call 17; first | (with_reducible exact ext_same (QI.out _)) | (with_reducible exact ext_same (QK.out _)))); go_big_quiet_on)))
            refine wpQuiet_nil ?_
            rintro w3 ⟨⟨w3, hb3⟩, rfl⟩
            try dsimp only
            go_wp2
            go_ret
            exact ⟨ret_bool HX.out.symm, B0.after hb3 B0.size⟩
          | true =>
            cases bK with
            | false =>
              go_enter Tryz.func5, Tryz.ntmps5
              go_wp2_with fail
              rw [HV0.out.symm]
              refine wp_region_ext _ (by kernel_rfl) (by kernel_rfl) ?_
              repeat (first | go_big_quiet_skip | (go_big_quiet_want; go_big_quiet_op; first | go_big_quiet_on | (apply Exists.intro; refine ⟨fun _ => ?_, ?_⟩; (first | (go_at_call 16; exact ext_call (QN.out _)) | (go_at_call 13; exact ext_call (Q5.out _)) | (go_at_call 17; first | (with_reducible exact ext_same (QI.out _)) | (with_reducible exact ext_same (QK.out _)))); go_big_quiet_on)))
              refine wpQuiet_nil ?_
              rintro w3 ⟨⟨w3, hb3⟩, rfl⟩
              try dsimp only
              go_wp2
              go_ret
              exact ⟨ret_bool HX.out.symm, B0.after hb3 B0.size⟩
            | true => exact absurd ⟨⟨rfl, rfl⟩, rfl⟩ hall
    · have hx : chkVio (N : Int) l1 l4 = false := by unfold chkVio; rw [decide_eq_false h3l, Bool.and_false, Bool.false_and]
      have ht3 : ((l4.length : Int) != 3) = true := by simp; omega
      have HX := Lib.hid hx
      clear hx h3l hll hbd hf hq2
      go_enter Tryz.func5, Tryz.ntmps5
      go_wp2_with fail
      rw [HV0.out.symm]
      refine wp_region_ext _ (by kernel_rfl) (by kernel_rfl) ?_
      repeat (first | go_big_quiet_skip | (go_big_quiet_want; go_big_quiet_op; first | go_big_quiet_on | (apply Exists.intro; refine ⟨fun _ => ?_, ?_⟩; (go_at_call 16; exact ext_call (QN.out _)); go_big_quiet_on)))
      refine wpQuiet_nil ?_
      rintro w3 ⟨⟨w3, hb3⟩, rfl⟩
      try dsimp only
      go_wp2
      go_ret
      exact ⟨ret_bool HX.out.symm, B0.after hb3 B0.size⟩
end Go.Proofs.YtelmokapdkepbaaGreat
end
