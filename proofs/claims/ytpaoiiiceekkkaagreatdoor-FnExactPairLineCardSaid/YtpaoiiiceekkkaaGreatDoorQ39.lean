/- Common bases of two matroids: the second program. The line of two matroids: the second program. -/
import Derived.Test.YtpaoiiiceekkkaaGreatDoorQ38
import Derived.Deep.DeepCutAuto
section
namespace Go.Proofs.YtpaoiiiceekkkaaGreatDoor
open Go.RowKit Go.G5

theorem comB_of {n m : Int} {l k : List Int} : comB n l m k = (rankB n l && (rankB m k && decide (n = m))) := by
  unfold comB
  cases rankB n l <;> cases rankB m k <;> simp
set_option maxHeartbeats 2000000 in
set_option maxRecDepth 100000 in
theorem cbS_c (w : World) (n : Int) (v : Value) (l : List Int) (hv : Ints w v l) (hl : l.length ≤ 1048576) (m : Int) (u : Value) (k : List Int) (hu : Ints w u k) (hk : k.length ≤ 1048576) :
    Calls Tryz.prog 48 #[.agg #[.int .i64 n, v], .agg #[.int .i64 m, u]] w fun e w' => ∃ ad i cp, e = .returned (.tuple #[.agg #[.int .i64 (cbaN n l m k), .slice ad i cp], .bool (comB n l m k)]) ∧ OwnI 3 w.heap.size w' (.slice ad i cp) (cbaL n l m k) ∧ Below w.heap.size w w' := by
  have hv0 := hv
  have hu0 := hu
  obtain ⟨a, c, rfl⟩ := hv.shape
  obtain ⟨b, d, rfl⟩ := hu.shape
  have hcm := comB_of (n := n) (m := m) (l := l) (k := k)
  have hb1 := fun (W : World) (h : Ints W (.slice a l.length c) l) => basS_c W n _ l h hl
  have hb2 := fun (W : World) (h : Ints W (.slice b k.length d) k) => basS_c W m _ k h hk
  obtain ⟨r1, hr1⟩ : ∃ r, r = rankB n l := ⟨_, rfl⟩
  obtain ⟨r2, hr2⟩ : ∃ r, r = rankB m k := ⟨_, rfl⟩
  obtain ⟨A1, hA1⟩ : ∃ A, A = basL n l := ⟨_, rfl⟩
  obtain ⟨A2, hA2⟩ : ∃ A, A = basL m k := ⟨_, rfl⟩
  obtain ⟨M1, hM1⟩ : ∃ A, A = matN n l := ⟨_, rfl⟩
  obtain ⟨M2, hM2⟩ : ∃ A, A = matN m k := ⟨_, rfl⟩
  simp only [← hr1, ← hA1, ← hM1] at hb1
  simp only [← hr2, ← hA2, ← hM2] at hb2
  rw [← hr1, ← hr2] at hcm
  have HB1 := Lib.hid hb1
  have HB2 := Lib.hid hb2
  have HA1 := Lib.hid hA1
  have HA2 := Lib.hid hA2
  have HR := Lib.hid (And.intro hr1 hr2)
  clear hb1 hb2 hr1 hr2 hA1 hA2 hM1 hM2
  go_enter Tryz.func48, Tryz.ntmps48
  go_wp2_with fail
  refine calls_named ?_
  intro V hV
  have B : Below w.heap.size w V := by rw [hV]; exact (bl2 _ _ _).alloc (by first | omega | (simp; done) | (simp; omega)) _
  have K1 : Blk V w.heap.size 27 #[.int .i64 n, .slice a l.length c] := by rw [hV]; exact ((Blk.new _ _ _).alloc _).alloc _
  have K2 : Blk V (w.heap.size + 1) 27 #[.int .i64 m, .slice b k.length d] := by rw [hV]; have := (Blk.new (w.alloc (.cells #[.int .i64 n, .slice a l.length c] 27)) 27 #[.int .i64 m, .slice b k.length d]).alloc (.cells #[.int .i64 0, .slice none 0 0] 37); simpa using this
  have K3 : Blk V (w.heap.size + 1 + 1) 37 #[.int .i64 0, .slice none 0 0] := by rw [hV]; have := Blk.new ((w.alloc (.cells #[.int .i64 n, .slice a l.length c] 27)).alloc (.cells #[.int .i64 m, .slice b k.length d] 27)) 37 #[.int .i64 0, .slice none 0 0]; simpa using this
  clear hV
  refine (HB1.out _ (hv0.below B (Nat.le_refl _))).mono ?_
  rintro e w2 ⟨p1, i1, q1, rfl, o1, b2⟩
  have hi1 : i1 = A1.length := o1.ints.capLe.1
  subst hi1
  have B2 := B.after b2 B.size
  have K1 := K1.keep b2
  have K2 := K2.keep b2
  have K3 := K3.keep b2
  clear B b2
  have J1 := Blk.new w2 37 #[.int .i64 M1, .slice p1 A1.length q1]
  have h1 := o1.ints.alloc (.cells #[.int .i64 M1, .slice p1 A1.length q1] 37)
  have B2' := B2.alloc B2.size (.cells #[.int .i64 M1, .slice p1 A1.length q1] 37)
  have K1' := K1.alloc (.cells #[.int .i64 M1, .slice p1 A1.length q1] 37)
  have K2' := K2.alloc (.cells #[.int .i64 M1, .slice p1 A1.length q1] 37)
  have K3' := K3.alloc (.cells #[.int .i64 M1, .slice p1 A1.length q1] 37)
  have G1 := K2'.cell
  go_wp2_with fail
  refine (HB2.out _ (hu0.below B2' (Nat.le_refl _))).mono ?_
  rintro e w3 ⟨p2, i2, q2, rfl, o2, b3⟩
  have hi2 : i2 = A2.length := o2.ints.capLe.1
  subst hi2
  have B3 := B2'.after b3 B2'.size
  have K1 := K1'.keep b3
  have K2 := K2'.keep b3
  have K3 := K3'.keep b3
  have J1 := J1.keep b3
  have h1 := h1.keep b3
  clear G1 B2 B2' K1' K2' K3' b3
  have J2 := Blk.new w3 37 #[.int .i64 M2, .slice p2 A2.length q2]
  have h2 := o2.ints.alloc (.cells #[.int .i64 M2, .slice p2 A2.length q2] 37)
  have B3 := B3.alloc B3.size (.cells #[.int .i64 M2, .slice p2 A2.length q2] 37)
  have K1 := K1.alloc (.cells #[.int .i64 M2, .slice p2 A2.length q2] 37)
  have K2 := K2.alloc (.cells #[.int .i64 M2, .slice p2 A2.length q2] 37)
  have K3 := K3.alloc (.cells #[.int .i64 M2, .slice p2 A2.length q2] 37)
  have J1 := J1.alloc (.cells #[.int .i64 M2, .slice p2 A2.length q2] 37)
  have h1 := h1.alloc (.cells #[.int .i64 M2, .slice p2 A2.length q2] 37)
  have G1 := K1.cell
  have G2 := K2.cell
  have G3 := K3.cell
  have F3 := K3.frozen
  have z3 := K3.lt
  have hcm2 : comB n l m k = (r1 && (r2 && (n == m))) := by rw [hcm, beq_dec]
  clear hcm
  cases hf : comB n l m k with
  | false =>
    have hN : cbaN n l m k = 0 := by unfold cbaN; rw [hf]; rfl
    have hL : cbaL n l m k = [] := by unfold cbaL; rw [hf]; rfl
    have hno : (!r1 || (!r2 || n != m)) = true := by rw [hf] at hcm2; revert hcm2; cases r1 <;> cases r2 <;> cases h : n == m <;> simp [bne, h]
    have HN := Lib.hid hN
    have HL := Lib.hid hL
    have HF := Lib.hid hf
    have hfin : ∀ Wf : World, Wf = (((w3.alloc (.cells #[.int .i64 M2, .slice p2 A2.length q2] 37)).setCell ⟨w.heap.size + 1 + 1, 0, none⟩ (.int .i64 0)).setCell ⟨w.heap.size + 1 + 1, 1, none⟩ (.slice none 0 0)) → Below w.heap.size w Wf ∧ Blk Wf (w.heap.size + 1 + 1) 37 #[.int .i64 0, .slice none 0 0] := by
      intro Wf hWf
      rw [hWf]
      refine ⟨Below.setCell (Below.setCell B3 (by first | omega | (simp; done) | (simp; omega)) _) (by first | omega | (simp; done) | (simp; omega)) _, ?_⟩
      have := (K3.set 0 (.int .i64 0)).set 1 (.slice none 0 0)
      simpa using this
    have HFIN := Lib.hid hfin
    clear hN hL hf hcm2 hfin
    cases r1 with
    | false =>
      clear hno
      go_wp2
      refine post_named ?_
      intro Wf hWf
      obtain ⟨Bf, K2f⟩ := HFIN.out Wf hWf
      have Gf := K2f.cell
      clear hWf G1 G2 G3 F3
      exact bodyPost_ret (v := .tuple #[.agg #[.int .i64 0, .slice none 0 0], .bool false]) (by simp [results, Tryz.results48, go_sem, Gf]) rfl ⟨none, 0, 0, by rw [HN.out, HF.out], by rw [HL.out]; exact OwnI.nil _ _ _, Bf⟩
    | true =>
      cases r2 with
      | false =>
        clear hno
        go_wp2
        refine post_named ?_
        intro Wf hWf
        obtain ⟨Bf, K2f⟩ := HFIN.out Wf hWf
        have Gf := K2f.cell
        clear hWf G1 G2 G3 F3
        exact bodyPost_ret (v := .tuple #[.agg #[.int .i64 0, .slice none 0 0], .bool false]) (by simp [results, Tryz.results48, go_sem, Gf]) rfl ⟨none, 0, 0, by rw [HN.out, HF.out], by rw [HL.out]; exact OwnI.nil _ _ _, Bf⟩
      | true =>
        have hno : (n != m) = true := by simpa using hno
        go_wp2
        refine post_named ?_
        intro Wf hWf
        obtain ⟨Bf, K2f⟩ := HFIN.out Wf hWf
        have Gf := K2f.cell
        clear hWf G1 G2 G3 F3
        exact bodyPost_ret (v := .tuple #[.agg #[.int .i64 0, .slice none 0 0], .bool false]) (by simp [results, Tryz.results48, go_sem, Gf]) rfl ⟨none, 0, 0, by rw [HN.out, HF.out], by rw [HL.out]; exact OwnI.nil _ _ _, Bf⟩
  | true =>
    obtain ⟨hq1, hq2⟩ := com_rank hf
    obtain ⟨rfl, N, rfl, hN5, hl2, hl32, hkl, _, _⟩ := com_fun hf
    have hrr : r1 = true ∧ r2 = true := ⟨HR.out.1.trans hq1, HR.out.2.trans hq2⟩
    obtain ⟨rfl, rfl⟩ := hrr
    have hN : cbaN N l N k = N := by unfold cbaN; rw [hf]; rfl
    have hL : cbaL N l N k = A1.filter (has A2) := by
      rw [HA1.out, HA2.out]
      unfold cbaL basL
      rw [hf, if_pos rfl, hq1, if_pos rfl, hq2, if_pos rfl, hkl, filter_chosen]
      rfl
    have hAl : A1.length ≤ 32 := by rw [HA1.out]; unfold basL; rw [hq1, if_pos rfl]; exact Nat.le_trans (chosen_len _ _) hl32
    have hAm : ∀ y ∈ A1, 0 ≤ y ∧ y < 64 := by
      rw [HA1.out]; unfold basL; rw [hq1, if_pos rfl]; intro y hy; have := chosen_mem _ _ y hy; omega
    have HAM := Lib.hid hAm
    have hne : (((N : Nat) : Int) != (N : Int)) = false := by simp
    have HN := Lib.hid hN
    have HL := Lib.hid hL
    have HF := Lib.hid hf
    obtain ⟨av, ab, off, cv, hve, _, hix, hc, hb⟩ := h1.view Tryz.prog 22 3 Tryz.underlying22 intElem
    injection hve with x1 _ x3
    subst x1 x3
    have HC := Lib.hid hc
    have HIX := Lib.hid hix
    clear hAm hN hL hf hq1 hq2 hl2 hkl hcm2 hc hix
    clear z3
    go_wp2_with fail
    obtain ⟨V, hV⟩ : ∃ V, V = w3.alloc (.cells #[.int .i64 M2, .slice p2 A2.length q2] 37) := ⟨_, rfl⟩
    have o0 := OwnI.lit0 (E := 3) (B := V.heap.size) V (Nat.le_refl _)
    clear G1 G2 G3 F3
    have zV : V.heap.size = w3.heap.size + 1 := by rw [hV]; simp
    have hbx : A1 ≠ [] → ab < V.heap.size := by rw [hV]; exact hb
    rw [← hV] at B3 K1 K2 K3 J1 J2 h1 h2 HC ⊢
    have o0x : OwnI 3 V.heap.size (V.alloc (.cells #[] 3)) (.slice (some ⟨w3.heap.size + 1, 0, none⟩) 0 0) [] := by
      rw [show (⟨V.heap.size, 0, none⟩ : Addr) = ⟨w3.heap.size + 1, 0, none⟩ by rw [zV]] at o0
      exact o0
    clear hV
    go_loopw [10, 11] (fun out i wr => ∃ (j : Nat) (ad : Option Addr) (nn cp : Nat), j ≤ A1.length ∧ out = .slice ad nn cp ∧ i = .int .i64 j ∧ OwnI 3 V.heap.size wr (.slice ad nn cp) ((A1.take j).filter (has A2)) ∧ Below V.heap.size V wr)
      (fun _ i _ => A1.length - (intOf i).toNat)
    case atStart => exact ⟨0, _, _, _, Nat.zero_le _, rfl, rfl, o0x, bl1 _ _⟩
    case round =>
      obtain ⟨j, ad, nn, cp, hj, rfl, rfl, ho, B⟩ := hrel
      obtain ⟨wo, rfl⟩ : ∃ z : World, z = wr := ⟨_, rfl⟩
      have HO := Lib.hid ho
      clear ho o0 o0x
      have zw := B.size
      have J1w := blk_under J1 B J1.lt
      have J2w := blk_under J2 B J2.lt
      have z1 := J1w.lt
      by_cases hlt : j < A1.length
      · have hlt2 : (j : Int) < (A1.length : Int) := by omega
        have hcs := take_filter (has A2) A1 j hlt
        have hlk : ((A1.take j).filter (has A2)).length ≤ 64 := by
          have h1 := List.length_filter_le (has A2) (A1.take j)
          have h2 := List.length_take_le j A1
          omega
        have ckk := cells_below HC.out hbx B (Nat.le_refl _) j hlt
        have ikk := fun W => HIX.out W j hlt
        have hxr := HAM.out A1[j] (List.getElem_mem hlt)
        obtain ⟨x, hx⟩ : ∃ x, x = A1[j] := ⟨_, rfl⟩
        rw [← hx] at hxr
        rw [← hx] at hcs ckk
        have hhs := fun y : Ext wo => l10Has_any A2 _ x y.w ((h2.below B (Nat.le_refl _)).keep y.b)
        obtain ⟨q, hq⟩ : ∃ q, q = has A2 x := ⟨_, rfl⟩
        rw [← hq] at hcs
        simp only [← hq] at hhs
        have a1 := J1w.cell 1
        have a2 := J2w.cell 1
        simp only [List.getElem?_toArray, List.getElem?_cons_zero, List.getElem?_cons_succ] at a1 a2
        have e1 : ∀ y : Ext wo, y.w.cell? ⟨w2.heap.size, 1, none⟩ = some (.slice p1 A1.length q1) := fun y => y.cell a1
        have e2 : ∀ y : Ext wo, y.w.cell? ⟨w3.heap.size, 1, none⟩ = some (.slice p2 A2.length q2) := fun y => y.cell a2
        have e3 : ∀ y : Ext wo, y.w.cell? ⟨ab, off + j, none⟩ = some (.int .i64 x) := fun y => y.cell ckk
        have G1 := J1w.cell
        have HHS := Lib.hid hhs
        clear hx hq hhs a1 a2
        cases q with
        | false =>
          rw [if_neg (by simp), List.append_nil] at hcs
          have HCS := Lib.hid hcs
          clear hcs
          go_wp2_with fail
          refine wp_region_ext _ (by kernel_rfl) (by kernel_rfl) ?_
          repeat (first | go_big_quiet_skip | (go_big_quiet_want; go_big_quiet_op; first | go_big_quiet_on | (apply Exists.intro; refine ⟨fun _ => ?_, ?_⟩; (go_at_call 153; exact ext_same (HHS.out _)); go_big_quiet_on)))
          refine wpQuiet_nil ?_
          rintro w5 ⟨⟨w5, b5⟩, rfl⟩
          try dsimp only
          go_wp2
          go_roundw
          case rel => exact ⟨j + 1, ad, nn, cp, by omega, rfl, by go_num, by rw [HCS.out]; exact HO.out.keep b5, B.after b5 B.size⟩
          case measure => simp [intOf]; omega
        | true =>
          rw [if_pos rfl] at hcs
          have HCS := Lib.hid hcs
          clear hcs
          go_wp2_with fail
          refine wp_region_ext _ (by kernel_rfl) (by kernel_rfl) ?_
          repeat (first | go_big_quiet_skip | (go_big_quiet_want; go_big_quiet_op; first | go_big_quiet_on | (apply Exists.intro; refine ⟨fun _ => ?_, ?_⟩; (go_at_call 153; exact ext_same (HHS.out _)); go_big_quiet_on)))
          refine wpQuiet_nil ?_
          rintro w5 ⟨⟨w5, b5⟩, rfl⟩
          try dsimp only
          clear G1
          have J1x := J1w.keep b5
          have G1 := J1x.cell
          have c5 := (Ext.mk w5 b5).cell ckk
          have HO5 := HO.out.keep b5
          have B5 := B.after b5 B.size
          have z5 := B5.size
          clear e1 e2 e3 HHS
          go_wp2_with (at_builtin; refine wpList_appendI rfl _ _ _ rfl 3 Tryz.underlying22 intElem V.heap.size _ _ x w5.heap.size rfl rfl (cell_new w5 #[.int .i64 x] 3 0 _ rfl) (HO5.alloc _) ⟨by omega, by omega⟩ (by omega) (by first | omega | (simp; done) | (simp; omega)) ?_; intro v' w6 hown hgr; obtain ⟨av, nv, cv, rfl⟩ := hown.shape3)
          have B6 : Below V.heap.size V w6 := (B5.alloc B5.size (.cells #[.int .i64 x] 3)).grown hgr (by simp; omega) (fun q hq => (HO5.lt q hq).1)
          go_roundw
          case rel => exact ⟨j + 1, av, nv, cv, by omega, rfl, by go_num, by rw [HCS.out]; exact hown, B6⟩
          case measure => simp [intOf]; omega
      · have hlt2 : ¬ (j : Int) < (A1.length : Int) := by omega
        have hjN : j = A1.length := by omega
        subst hjN
        have K1w := blk_under K1 B K1.lt
        have K3w := blk_under K3 B K3.lt
        have y3 := K3w.lt
        have G1 := J1w.cell
        have G2 := K1w.cell
        have G3 := K3w.cell
        have F3 := K3w.frozen
        have yy := B3.size
        have y4 := K3.lt
        go_wp2
        refine post_named ?_
        intro Wf hWf
        have K2f : Blk Wf (w.heap.size + 1 + 1) 37 #[.int .i64 N, .slice ad nn cp] := by
          rw [hWf]
          have := (K3w.set 0 (.int .i64 N)).set 1 (.slice ad nn cp)
          simpa using this
        have Bf : Below w.heap.size w Wf := by rw [hWf]; exact Below.setCell (Below.setCell (B3.after B B3.size) (by first | omega | (simp; done) | (simp; omega)) _) (by first | omega | (simp; done) | (simp; omega)) _
        have of : OwnI 3 w.heap.size Wf (.slice ad nn cp) ((A1.take A1.length).filter (has A2)) := by rw [hWf]; exact ((HO.out.setBelow (by first | omega | (simp; done) | (simp; omega)) _).setBelow (by first | omega | (simp; done) | (simp; omega)) _).mono (by first | omega | (simp; done) | (simp; omega))
        rw [List.take_length] at of
        have Gf := K2f.cell
        clear hWf G1 G2 G3 F3
        exact bodyPost_ret (v := .tuple #[.agg #[.int .i64 N, .slice ad nn cp], .bool true]) (by simp [results, Tryz.results48, go_sem, Gf]) rfl ⟨ad, nn, cp, by rw [HN.out, HF.out], by rw [HL.out]; exact of, Bf⟩
end Go.Proofs.YtpaoiiiceekkkaaGreatDoor
end
section
namespace Go.Proofs.YtpaoiiiceekkkaaGreatDoor
open Go.RowKit Go.G5

set_option maxHeartbeats 4000000 in
set_option maxRecDepth 100000 in
theorem plLineS_c (w : World) (n : Int) (v : Value) (l : List Int) (hv : Ints w v l) (hl : l.length ≤ 1048576) (m : Int) (u : Value) (k : List Int) (hu : Ints w u k) (hk : k.length ≤ 1048576) :
    Calls Tryz.prog 8 #[.agg #[.int .i64 n, v], .agg #[.int .i64 m, u]] w fun e w' => e = .returned (.string (plLn n l m k)) ∧ Below w.heap.size w w' := by
  have hv0 := hv
  have hu0 := hu
  obtain ⟨a, c, rfl⟩ := hv.shape
  obtain ⟨a', c', rfl⟩ := hu.shape
  have hc1 := fun (W : World) (h1 : Ints W (.slice a l.length c) l) (h2 : Ints W (.slice a' k.length c') k) => largestCommonS_c W n _ l h1 hl m _ k h2 hk
  have hc2 := fun (W : World) (h1 : Ints W (.slice a l.length c) l) (h2 : Ints W (.slice a' k.length c') k) => commonBoundS_c W n _ l h1 hl m _ k h2 hk
  have hc3 := fun (W : World) (h1 : Ints W (.slice a l.length c) l) (h2 : Ints W (.slice a' k.length c') k) => unionS_c W n _ l h1 hl m _ k h2 hk
  have hc4 := fun (W : World) (h1 : Ints W (.slice a l.length c) l) (h2 : Ints W (.slice a' k.length c') k) => cbS_c W n _ l h1 hl m _ k h2 hk
  have B0 : Below w.heap.size w ((w.alloc (.cells #[.int .i64 n, .slice a l.length c] 27)).alloc (.cells #[.int .i64 m, .slice a' k.length c'] 27)) := bl2 _ _ _
  have K1 := (Blk.new w 27 #[.int .i64 n, .slice a l.length c]).alloc (.cells #[.int .i64 m, .slice a' k.length c'] 27)
  have K2 : Blk ((w.alloc (.cells #[.int .i64 n, .slice a l.length c] 27)).alloc (.cells #[.int .i64 m, .slice a' k.length c'] 27)) (w.heap.size + 1) 27 #[.int .i64 m, .slice a' k.length c'] := by
    have := Blk.new (w.alloc (.cells #[.int .i64 n, .slice a l.length c] 27)) 27 #[.int .i64 m, .slice a' k.length c']
    simpa using this
  cases hf : comB n l m k with
  | false =>
    have HX := Lib.hid (plLn_no hf)
    have hc1 := hc1 _ (hv0.below B0 (Nat.le_refl _)) (hu0.below B0 (Nat.le_refl _))
    rw [hf] at hc1
    have HC1 := Lib.hid hc1
    clear hf hc1 hc2 hc3 hc4 K1 K2
    go_enter Tryz.func8, Tryz.ntmps8
    go_wp2_with fail
    refine HC1.out.mono ?_
    rintro e w1 ⟨rfl, b1⟩
    go_wp2
    go_ret
    exact ⟨ret_str HX.out.symm, B0.after b1 B0.size⟩
  | true =>
    have hbd := cbN_bd n l m k
    obtain ⟨TT, hTT⟩ : ∃ T, T = plLn n l m k := ⟨_, rfl⟩
    have hsz : TT.size ≤ 10600 := by rw [hTT, plLn_yes hf]; exact plT_size n l m k
    have hx : plQ (setTx n (lcS n l m k)) (itoaB (cbN n l m k)) (setTx n (cbS n l m k)) (setTx n (luS n l m k)) (famTx (cbaN n l m k) (cbaL n l m k)) = TT := by rw [hTT, plLn_yes hf]; rfl
    unfold plQ at hx
    simp only [hf] at hc1 hc2 hc3 hc4
    obtain ⟨S1, hS1⟩ : ∃ S, S = lcS n l m k := ⟨_, rfl⟩
    obtain ⟨S2, hS2⟩ : ∃ S, S = cbS n l m k := ⟨_, rfl⟩
    obtain ⟨S3, hS3⟩ : ∃ S, S = luS n l m k := ⟨_, rfl⟩
    obtain ⟨N1, hN1⟩ : ∃ S, S = cbN n l m k := ⟨_, rfl⟩
    obtain ⟨M, hM⟩ : ∃ S, S = cbaN n l m k := ⟨_, rfl⟩
    obtain ⟨L, hL⟩ : ∃ S, S = cbaL n l m k := ⟨_, rfl⟩
    simp only [← hS1] at hc1
    simp only [← hS2, ← hN1] at hc2
    simp only [← hS3] at hc3
    simp only [← hM, ← hL] at hc4
    rw [← hS1, ← hS2, ← hS3, ← hN1, ← hM, ← hL] at hx
    rw [← hN1] at hbd
    have HC1 := Lib.hid hc1
    have HC2 := Lib.hid hc2
    have HC3 := Lib.hid hc3
    have HC4 := Lib.hid hc4
    have HX := Lib.hid hx
    have HTT := Lib.hid hTT
    clear hc1 hc2 hc3 hc4 hx hTT hf hS1 hS2 hS3 hN1 hM hL
    go_enter Tryz.func8, Tryz.ntmps8
    go_wp2_with fail
    refine (HC1.out _ (hv0.below B0 (Nat.le_refl _)) (hu0.below B0 (Nat.le_refl _))).mono ?_
    rintro e w1 ⟨rfl, b1⟩
    have B1 := B0.after b1 B0.size
    have K1 := K1.keep b1
    have K2 := K2.keep b1
    clear B0 b1
    have G1 := K1.cell
    have G2 := K2.cell
    have z1 := K1.lt
    have z2 := K2.lt
    go_wp2_with fail
    refine (HC2.out _ (hv0.below B1 (Nat.le_refl _)) (hu0.below B1 (Nat.le_refl _))).mono ?_
    rintro e w2 ⟨rfl, b2⟩
    have B2 := B1.after b2 B1.size
    have K1 := K1.keep b2
    have K2 := K2.keep b2
    clear B1 b2 G1 G2 z1 z2
    have G1 := K1.cell
    have G2 := K2.cell
    have z1 := K1.lt
    have z2 := K2.lt
    go_wp2_with fail
    refine (HC3.out _ (hv0.below B2 (Nat.le_refl _)) (hu0.below B2 (Nat.le_refl _))).mono ?_
    rintro e w3 ⟨rfl, b3⟩
    have B3 := B2.after b3 B2.size
    have K1 := K1.keep b3
    have K2 := K2.keep b3
    clear B2 b3 G1 G2 z1 z2
    have G1 := K1.cell
    have G2 := K2.cell
    have z1 := K1.lt
    have z2 := K2.lt
    go_wp2_with fail
    refine (HC4.out _ (hv0.below B3 (Nat.le_refl _)) (hu0.below B3 (Nat.le_refl _))).mono ?_
    rintro e w4 ⟨pB, iB, qB, rfl, oB, b4⟩
    have hiB : iB = L.length := oB.ints.capLe.1
    subst hiB
    have B4 := B3.after b4 B3.size
    have K1 := K1.keep b4
    clear B3 b4 G1 G2 z1 z2 K2
    have KB := Blk.new w4 37 #[.int .i64 M, .slice pB L.length qB]
    have hB := oB.ints.alloc (.cells #[.int .i64 M, .slice pB L.length qB] 37)
    have B4' := B4.alloc B4.size (.cells #[.int .i64 M, .slice pB L.length qB] 37)
    have K1' := K1.alloc (.cells #[.int .i64 M, .slice pB L.length qB] 37)
    have q1 := setTx_size n S1
    have q2 := setTx_size n S2
    have q3 := setTx_size n S3
    have q4 := itoaB_size N1 ⟨by omega, by omega⟩
    have q5 := famTx_size M L
    have hr1 := fun W : World => fmtSetS_any n S1 W
    have hr2 := fun W : World => fmtSetS_any n S2 W
    have hr3 := fun W : World => fmtSetS_any n S3 W
    have hr4 := fun W : World => fmtS_any N1 ⟨by omega, by omega⟩ W
    obtain ⟨F1, hF1⟩ : ∃ F, F = setTx n S1 := ⟨_, rfl⟩
    obtain ⟨F2, hF2⟩ : ∃ F, F = setTx n S2 := ⟨_, rfl⟩
    obtain ⟨F3, hF3⟩ : ∃ F, F = setTx n S3 := ⟨_, rfl⟩
    obtain ⟨F4, hF4⟩ : ∃ F, F = itoaB N1 := ⟨_, rfl⟩
    simp only [← hF1] at hr1
    simp only [← hF2] at hr2
    simp only [← hF3] at hr3
    simp only [← hF4] at hr4
    rw [← hF1] at q1
    rw [← hF2] at q2
    rw [← hF3] at q3
    rw [← hF4] at q4
    have hx2 := HX.out
    rw [← hF1, ← hF2, ← hF3, ← hF4] at hx2
    have HX := Lib.hid hx2
    clear hF1 hF2 hF3 hF4 hx2
    obtain ⟨W5, hW5⟩ : ∃ W, W = w4.alloc (.cells #[.int .i64 M, .slice pB L.length qB] 37) := ⟨_, rfl⟩
    rw [← hW5] at hB KB K1' B4'
    have a0 := K1'.cell 0
    have a1 := KB.cell 0
    have a2 := KB.cell 1
    simp only [List.getElem?_toArray, List.getElem?_cons_zero, List.getElem?_cons_succ] at a0 a1 a2
    have p0 : ∀ y : Ext W5, y.w.cell? ⟨w.heap.size, 0, none⟩ = some (.int .i64 n) := fun y => y.cell a0
    have p1 : ∀ y : Ext W5, y.w.cell? ⟨w4.heap.size, 0, none⟩ = some (.int .i64 M) := fun y => y.cell a1
    have p2 : ∀ y : Ext W5, y.w.cell? ⟨w4.heap.size, 1, none⟩ = some (.slice pB L.length qB) := fun y => y.cell a2
    have hr5 := fun y : Ext W5 => fmtFamS_any M L _ y.w (hB.keep y.b)
    obtain ⟨F5, hF5⟩ : ∃ F, F = famTx M L := ⟨_, rfl⟩
    simp only [← hF5] at hr5
    rw [← hF5] at q5
    have hx2 := HX.out
    rw [← hF5] at hx2
    have HX := Lib.hid hx2
    have R1 := Lib.hid (fun y : Ext W5 => hr1 y.w)
    have R2 := Lib.hid (fun y : Ext W5 => hr2 y.w)
    have R3 := Lib.hid (fun y : Ext W5 => hr3 y.w)
    have R4 := Lib.hid (fun y : Ext W5 => hr4 y.w)
    have R5 := Lib.hid hr5
    clear hF5 hx2 hr1 hr2 hr3 hr4 hr5 a0 a1 a2 K1 K1' KB hB hv hu hv0 hu0 HC1 HC2 HC3 HC4 oB hbd
    go_upto_region 7 with fail
    rw [← hW5]
    clear hW5
    refine wp_region_ext _ (by kernel_rfl) (by kernel_rfl) ?_
    repeat (first | go_big_quiet_skip | (go_big_quiet_want; go_big_quiet_op; first | go_big_quiet_on | (apply Exists.intro; refine ⟨fun _ => ?_, ?_⟩; (first | (go_at_call 49; first | (with_reducible exact ext_call (R1.out _)) | (with_reducible exact ext_call (R2.out _)) | (with_reducible exact ext_call (R3.out _))) | (go_at_call 50; exact ext_call (R4.out _)) | (go_at_call 51; exact ext_call (R5.out _))); go_big_quiet_on)))
    refine wpQuiet_nil ?_
    rintro w9 ⟨⟨w9, b9⟩, rfl⟩
    try dsimp only
    go_wp2
    go_ret
    exact ⟨ret_str (HX.out.trans HTT.out), B4'.after b9 B4'.size⟩
end Go.Proofs.YtpaoiiiceekkkaaGreatDoor
end
