/- Claims as texts: the second program. -/
import Derived.Test.YtpaoiiiceekkkaaDoorFmtD
import Derived.Deep.DeepCutAuto
namespace Go.Proofs.YtpaoiiiceekkkaaDoor
open Go.RowKit Go.G5

set_option maxHeartbeats 4000000 in
set_option maxRecDepth 100000 in
theorem fmtClaimS_any (k n1 : Int) (v1 : Value) (l1 : List Int) (n2 : Int) (v2 : Value) (l2 : List Int) (n3 : Int) (v3 : Value) (l3 : List Int) (q st : Int) (v4 : Value) (l4 : List Int) (w : World)
    (h1 : Ints w v1 l1) (h2 : Ints w v2 l2) (h3 : Ints w v3 l3) (h4 : Ints w v4 l4) :
    Calls Tryd.prog 9 #[clV k n1 v1 n2 v2 n3 v3 q st v4] w fun e w' => e = .returned (.string (claimTx k n1 l1 n2 l2 n3 l3 q st l4)) ∧ Below w.heap.size w w' := by
  have K0 := Blk.new w 34 (clC k n1 v1 n2 v2 n3 v3 q st v4)
  have hcw := claimWordS_any k (w.alloc (.cells (clC k n1 v1 n2 v2 n3 v3 q st v4) 34))
  by_cases hk : 1 ≤ k ∧ k ≤ 7
  · have hwn := word_ne k hk
    have hws := claimWord_size k
    obtain ⟨W, hW⟩ : ∃ W, W = claimWord k := ⟨_, rfl⟩
    rw [← hW] at hcw hwn hws
    have hemp := str_emp W
    rw [decide_eq_false hwn] at hemp
    have HCW := Lib.hid hcw
    have HW := Lib.hid hW
    have hlim : max (-99999) (min 99999 q) = lim q := rfl
    clear hcw hW hwn
    go_enter Tryd.func9, Tryd.ntmps9
    go_wp2_with fail
    refine HCW.out.mono ?_
    rintro e w1 ⟨rfl, b1⟩
    have B1 : Below w.heap.size w w1 := (bl1 _ _).after b1 (by simp)
    have K1 := K0.keep b1
    clear K0 b1 HCW
    have G1 := K1.cell
    have hNs := itoaB_size (lim q) (lim_inR q)
    have hTs := listTx_size l4
    go_upto_region 3 with fail
    go_cut [4] (fun v wx => ∃ X, v = .string X ∧ X = headTx k q l4 ∧ X.size ≤ 1000 ∧ Below w1.heap.size w1 wx)
    case rest =>
      obtain ⟨X, rfl, hX, hXs, b2⟩ := hcut
      have B2 := B1.after b2 B1.size
      have K2 := K1.keep b2
      have HX := Lib.hid hX
      clear hX G1 b2 K1 hNs hTs hws hemp hlim h4
      have hsF := funTx_size n1 l1
      have hsG := funTx_size n2 l2
      have hsS := setTx_size n1 st
      have hsA := famTx_size n3 l3
      have hf := fmtFunS_any n1 l1 v1 wc (h1.below B2 (Nat.le_refl _))
      have hg := fun (W' : World) (hb : Below wc.heap.size wc W') => fmtFunS_any n2 l2 v2 W' ((h2.below B2 (Nat.le_refl _)).keep hb)
      have hs := fun (W' : World) => fmtSetS_any n1 st W'
      have ha := fun (W' : World) (hb : Below wc.heap.size wc W') => fmtFamS_any n3 l3 v3 W' ((h3.below B2 (Nat.le_refl _)).keep hb)
      obtain ⟨F, hF⟩ : ∃ F, F = funTx n1 l1 := ⟨_, rfl⟩
      obtain ⟨G, hG⟩ : ∃ G, G = funTx n2 l2 := ⟨_, rfl⟩
      obtain ⟨S, hS⟩ : ∃ S, S = setTx n1 st := ⟨_, rfl⟩
      obtain ⟨A, hA⟩ : ∃ A, A = famTx n3 l3 := ⟨_, rfl⟩
      rw [← hF] at hf hsF
      rw [← hG] at hg hsG
      rw [← hS] at hs hsS
      rw [← hA] at ha hsA
      have HF := Lib.hid hf
      have HG := Lib.hid hg
      have HS := Lib.hid hs
      have HA := Lib.hid ha
      have HFE := Lib.hid (And.intro hF (And.intro hG (And.intro hS hA)))
      clear hf hg hs ha hF hG hS hA h1 h2 h3
      have G2 := K2.cell
      go_wp2_with fail
      refine HF.out.mono ?_
      rintro e w3 ⟨rfl, b3⟩
      have K3 := K2.keep b3
      clear G2
      have G3 := K3.cell
      go_wp2_with fail
      refine (HG.out w3 b3).mono ?_
      rintro e w4 ⟨rfl, b4⟩
      have b4 := b3.after b4 b3.size
      have K4 := K2.keep b4
      clear G3 K3
      have G4 := K4.cell
      go_wp2_with fail
      refine (HS.out w4).mono ?_
      rintro e w5 ⟨rfl, b5⟩
      have b5 := b4.after b5 b4.size
      have K5 := K2.keep b5
      have B5 := B2.after b5 B2.size
      clear G4 K4 K2
      have G5 := K5.cell
      have efF := str_emp F
      have efG := str_emp G
      have efS := str_emp S
      by_cases k2 : k = 2
      · subst k2
        have hc := claimTx_is 2 n1 l1 n2 l2 n3 l3 q st l4 hk [ofW, F] (by rw [HFE.out.1]; rfl)
        rw [join_of, ← HX.out] at hc
        cases hb : decide (F = ByteArray.empty) with
        | true =>
          rw [hb] at efF
          rw [if_pos ((Lib.containsS_iff _ _).2 (by rw [of_decide_eq_true hb]; simp))] at hc
          have HC := Lib.hid hc
          clear hc hb
          go_wp2
          go_ret
          exact ⟨ret_str HC.out.symm, B5.after (Below.refl _ _) (Nat.le_refl _)⟩
        | false =>
          rw [hb] at efF
          have hnF : ¬ ByteArray.empty = F := fun e => of_decide_eq_false hb e.symm
          rw [if_neg (fun h => by have := (Lib.containsS_iff _ _).1 h; simp [of_ne, hnF] at this)] at hc
          have HC := Lib.hid hc
          clear hc hb hnF
          go_wp2
          go_ret
          exact ⟨ret_str HC.out.symm, B5.after (Below.refl _ _) (Nat.le_refl _)⟩
      · by_cases k3 : k = 3
        · subst k3
          have hc := claimTx_is 3 n1 l1 n2 l2 n3 l3 q st l4 hk [ofW, F, forW, G] (by rw [HFE.out.1, HFE.out.2.1]; rfl)
          rw [join_for, ← HX.out] at hc
          cases hbF : decide (F = ByteArray.empty) with
          | true =>
            rw [hbF] at efF
            rw [if_pos ((Lib.containsS_iff _ _).2 (by rw [of_decide_eq_true hbF]; simp))] at hc
            have HC := Lib.hid hc
            clear hc hbF 
            go_wp2
            go_ret
            exact ⟨ret_str HC.out.symm, B5⟩
          | false =>
            rw [hbF] at efF
            have hnF : ¬ ByteArray.empty = F := fun e => of_decide_eq_false hbF e.symm
            clear hbF
            cases hbG : decide (G = ByteArray.empty) with
            | true =>
              rw [hbG] at efG
              rw [if_pos ((Lib.containsS_iff _ _).2 (by rw [of_decide_eq_true hbG]; simp))] at hc
              have HC := Lib.hid hc
              clear hc hbG hnF
              go_wp2
              go_ret
              exact ⟨ret_str HC.out.symm, B5⟩
            | false =>
              rw [hbG] at efG
              have hnG : ¬ ByteArray.empty = G := fun e => of_decide_eq_false hbG e.symm
              clear hbG
              rw [if_neg (fun h => by have := (Lib.containsS_iff _ _).1 h; simp [of_ne, for_ne, hnF, hnG] at this)] at hc
              have HC := Lib.hid hc
              clear hc hnF hnG
              go_wp2
              go_ret
              exact ⟨ret_str HC.out.symm, B5⟩
        · by_cases k4 : k = 4
          · subst k4
            have hc := claimTx_is 4 n1 l1 n2 l2 n3 l3 q st l4 hk [setW, S, ofW, F, andW, G] (by rw [HFE.out.1, HFE.out.2.1, HFE.out.2.2.1]; rfl)
            rw [join_and, ← HX.out] at hc
            cases hbF : decide (F = ByteArray.empty) with
            | true =>
              rw [hbF] at efF
              rw [if_pos ((Lib.containsS_iff _ _).2 (by rw [of_decide_eq_true hbF]; simp))] at hc
              have HC := Lib.hid hc
              clear hc hbF 
              go_wp2
              go_ret
              exact ⟨ret_str HC.out.symm, B5⟩
            | false =>
              rw [hbF] at efF
              have hnF : ¬ ByteArray.empty = F := fun e => of_decide_eq_false hbF e.symm
              clear hbF
              cases hbG : decide (G = ByteArray.empty) with
              | true =>
                rw [hbG] at efG
                rw [if_pos ((Lib.containsS_iff _ _).2 (by rw [of_decide_eq_true hbG]; simp))] at hc
                have HC := Lib.hid hc
                clear hc hbG hnF
                go_wp2
                go_ret
                exact ⟨ret_str HC.out.symm, B5⟩
              | false =>
                rw [hbG] at efG
                have hnG : ¬ ByteArray.empty = G := fun e => of_decide_eq_false hbG e.symm
                clear hbG
                cases hbS : decide (S = ByteArray.empty) with
                | true =>
                  rw [hbS] at efS
                  rw [if_pos ((Lib.containsS_iff _ _).2 (by rw [of_decide_eq_true hbS]; simp))] at hc
                  have HC := Lib.hid hc
                  clear hc hbS hnF hnG
                  go_wp2
                  go_ret
                  exact ⟨ret_str HC.out.symm, B5⟩
                | false =>
                  rw [hbS] at efS
                  have hnS : ¬ ByteArray.empty = S := fun e => of_decide_eq_false hbS e.symm
                  clear hbS
                  rw [if_neg (fun h => by have := (Lib.containsS_iff _ _).1 h; simp [of_ne, and_ne, set_ne, hnF, hnG, hnS] at this)] at hc
                  have HC := Lib.hid hc
                  clear hc hnF hnG hnS
                  go_wp2
                  go_ret
                  exact ⟨ret_str HC.out.symm, B5⟩
          · by_cases k1 : k = 1
            · subst k1
              have hc := claimTx_is 1 n1 l1 n2 l2 n3 l3 q st l4 hk [setW, S, ofW, F] (by rw [HFE.out.1, HFE.out.2.2.1]; rfl)
              rw [join_set, ← HX.out] at hc
              cases hbF : decide (F = ByteArray.empty) with
              | true =>
                rw [hbF] at efF
                rw [if_pos ((Lib.containsS_iff _ _).2 (by rw [of_decide_eq_true hbF]; simp))] at hc
                have HC := Lib.hid hc
                clear hc hbF 
                go_wp2
                go_ret
                exact ⟨ret_str HC.out.symm, B5⟩
              | false =>
                rw [hbF] at efF
                have hnF : ¬ ByteArray.empty = F := fun e => of_decide_eq_false hbF e.symm
                clear hbF
                cases hbS : decide (S = ByteArray.empty) with
                | true =>
                  rw [hbS] at efS
                  rw [if_pos ((Lib.containsS_iff _ _).2 (by rw [of_decide_eq_true hbS]; simp))] at hc
                  have HC := Lib.hid hc
                  clear hc hbS hnF
                  go_wp2
                  go_ret
                  exact ⟨ret_str HC.out.symm, B5⟩
                | false =>
                  rw [hbS] at efS
                  have hnS : ¬ ByteArray.empty = S := fun e => of_decide_eq_false hbS e.symm
                  clear hbS
                  rw [if_neg (fun h => by have := (Lib.containsS_iff _ _).1 h; simp [of_ne, set_ne, hnF, hnS] at this)] at hc
                  have HC := Lib.hid hc
                  clear hc hnF hnS
                  go_wp2
                  go_ret
                  exact ⟨ret_str HC.out.symm, B5⟩
            · by_cases k5 : k = 5
              · subst k5
                have hc := claimTx_is 5 n1 l1 n2 l2 n3 l3 q st l4 hk [setW, S, ofW, F] (by rw [HFE.out.1, HFE.out.2.2.1]; rfl)
                rw [join_set, ← HX.out] at hc
                cases hbF : decide (F = ByteArray.empty) with
                | true =>
                  rw [hbF] at efF
                  rw [if_pos ((Lib.containsS_iff _ _).2 (by rw [of_decide_eq_true hbF]; simp))] at hc
                  have HC := Lib.hid hc
                  clear hc hbF 
                  go_wp2
                  go_ret
                  exact ⟨ret_str HC.out.symm, B5⟩
                | false =>
                  rw [hbF] at efF
                  have hnF : ¬ ByteArray.empty = F := fun e => of_decide_eq_false hbF e.symm
                  clear hbF
                  cases hbS : decide (S = ByteArray.empty) with
                  | true =>
                    rw [hbS] at efS
                    rw [if_pos ((Lib.containsS_iff _ _).2 (by rw [of_decide_eq_true hbS]; simp))] at hc
                    have HC := Lib.hid hc
                    clear hc hbS hnF
                    go_wp2
                    go_ret
                    exact ⟨ret_str HC.out.symm, B5⟩
                  | false =>
                    rw [hbS] at efS
                    have hnS : ¬ ByteArray.empty = S := fun e => of_decide_eq_false hbS e.symm
                    clear hbS
                    rw [if_neg (fun h => by have := (Lib.containsS_iff _ _).1 h; simp [of_ne, set_ne, hnF, hnS] at this)] at hc
                    have HC := Lib.hid hc
                    clear hc hnF hnS
                    go_wp2
                    go_ret
                    exact ⟨ret_str HC.out.symm, B5⟩
              · have hk67 : k = 6 ∨ k = 7 := by omega
                clear k1 k2 k3 k4 k5
                rcases hk67 with rfl | rfl
                · have hc := claimTx_is 6 n1 l1 n2 l2 n3 l3 q st l4 hk [ofW, A] (by rw [HFE.out.2.2.2]; rfl)
                  rw [join_of, ← HX.out] at hc
                  have efA := str_emp A
                  go_wp2_with fail
                  refine (HA.out w5 b5).mono ?_
                  rintro e w6 ⟨rfl, b6⟩
                  have B6 := B5.after b6 B5.size
                  cases hbA : decide (A = ByteArray.empty) with
                  | true =>
                    rw [hbA] at efA
                    rw [if_pos ((Lib.containsS_iff _ _).2 (by rw [of_decide_eq_true hbA]; simp))] at hc
                    have HC := Lib.hid hc
                    clear hc hbA
                    go_wp2
                    go_ret
                    exact ⟨ret_str HC.out.symm, B6⟩
                  | false =>
                    rw [hbA] at efA
                    have hnA : ¬ ByteArray.empty = A := fun e => of_decide_eq_false hbA e.symm
                    rw [if_neg (fun h => by have := (Lib.containsS_iff _ _).1 h; simp [of_ne, hnA] at this)] at hc
                    have HC := Lib.hid hc
                    clear hc hbA hnA
                    go_wp2
                    go_ret
                    exact ⟨ret_str HC.out.symm, B6⟩
                · have hc := claimTx_is 7 n1 l1 n2 l2 n3 l3 q st l4 hk [ofW, A] (by rw [HFE.out.2.2.2]; rfl)
                  rw [join_of, ← HX.out] at hc
                  have efA := str_emp A
                  go_wp2_with fail
                  refine (HA.out w5 b5).mono ?_
                  rintro e w6 ⟨rfl, b6⟩
                  have B6 := B5.after b6 B5.size
                  cases hbA : decide (A = ByteArray.empty) with
                  | true =>
                    rw [hbA] at efA
                    rw [if_pos ((Lib.containsS_iff _ _).2 (by rw [of_decide_eq_true hbA]; simp))] at hc
                    have HC := Lib.hid hc
                    clear hc hbA
                    go_wp2
                    go_ret
                    exact ⟨ret_str HC.out.symm, B6⟩
                  | false =>
                    rw [hbA] at efA
                    have hnA : ¬ ByteArray.empty = A := fun e => of_decide_eq_false hbA e.symm
                    rw [if_neg (fun h => by have := (Lib.containsS_iff _ _).1 h; simp [of_ne, hnA] at this)] at hc
                    have HC := Lib.hid hc
                    clear hc hbA hnA
                    go_wp2
                    go_ret
                    exact ⟨ret_str HC.out.symm, B6⟩
    case first =>
    have c7 := G1 7
    have c9 := G1 9
    simp only [clC, List.getElem?_toArray, List.getElem?_cons_zero, List.getElem?_cons_succ] at c7 c9
    have q7 : ∀ y : Ext w1, y.w.cell? ⟨w.heap.size, 7, none⟩ = some (.int .i64 q) := fun y => y.cell c7
    have q9 : ∀ y : Ext w1, y.w.cell? ⟨w.heap.size, 9, none⟩ = some v4 := fun y => y.cell c9
    have QN := fun y : Ext w1 => fmtS_any (lim q) (lim_inR q) y.w
    have QT := fun y : Ext w1 => l33_any l4 v4 y.w ((h4.below B1 (Nat.le_refl _)).keep y.b)
    obtain ⟨N, hN⟩ : ∃ N, N = itoaB (lim q) := ⟨_, rfl⟩
    obtain ⟨T, hT⟩ : ∃ T, T = listTx l4 := ⟨_, rfl⟩
    rw [← hN] at QN hNs
    rw [← hT] at QT hTs
    have QN := Lib.hid QN
    have QT := Lib.hid QT
    have HN := Lib.hid hN
    have HT := Lib.hid hT
    clear c7 c9 hN hT
    refine wp_region_ext _ (by kernel_rfl) (by kernel_rfl) ?_
    repeat (first | go_big_quiet_skip | (go_big_quiet_want; go_big_quiet_op; first | go_big_quiet_on | (apply Exists.intro; refine ⟨fun _ => ?_, ?_⟩; (first | (go_at_call 29; with_reducible exact ext_call (QN.out _)) | (go_at_call 30; with_reducible exact ext_call (QT.out _))); go_big_quiet_on)))
    refine wpQuiet_nil ?_
    rintro w2 ⟨⟨w2, b2⟩, rfl⟩
    try dsimp only
    have hsz : (W ++ { data := #[32] } ++ N ++ { data := #[32, 108, 105, 115, 116, 32] } ++ T).size ≤ 1000 := by
      simp only [ByteArray.size_append]
      have s1 : (ByteArray.mk #[32]).size = 1 := rfl
      have s2 : (ByteArray.mk #[32, 108, 105, 115, 116, 32]).size = 6 := rfl
      omega
    go_wp2_with fail
    go_meet
    exact ⟨_, rfl, by rw [HW.out, HN.out, HT.out]; rfl, hsz, b2⟩
  · have hx : claimTx k n1 l1 n2 l2 n3 l3 q st l4 = ByteArray.empty := by
      unfold claimTx
      rw [if_pos]
      rw [Lib.containsS_iff]
      unfold claimPs
      rw [head_mem]
      exact .inl (word_emp k hk).symm
    rw [word_emp k hk] at hcw
    have HCW := Lib.hid hcw
    have HX := Lib.hid hx
    clear hcw hx hk
    go_enter Tryd.func9, Tryd.ntmps9
    go_wp2_with fail
    refine HCW.out.mono ?_
    rintro e w1 ⟨rfl, b1⟩
    go_wp2
    go_ret
    exact ⟨ret_str HX.out.symm, (bl1 _ _).after b1 (by simp)⟩
end Go.Proofs.YtpaoiiiceekkkaaDoor
