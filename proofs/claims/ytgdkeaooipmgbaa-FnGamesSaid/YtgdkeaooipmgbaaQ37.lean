/- Games: sums of lists. Corners of all orders: the second program. -/
import Derived.Test.YtgdkeaooipmgbaaQ36
section
namespace Go.Proofs.Ytgdkeaooipmgbaa
open Go.RowKit Go.G5

theorem fold_take2 (q : List Int) (k : Nat) (h : k < q.length) : (q.take (k + 1)).foldl (· + ·) (0 : Int) = (q.take k).foldl (· + ·) 0 + q[k] := by
  rw [List.take_succ_eq_append_getElem h, List.foldl_append]; rfl
set_option maxHeartbeats 1000000 in
theorem total2_any (q : List Int) (v : Value) (w : World) (hv : Ints w v q) (h0 : ∀ k, (h : k < q.length) → -100000000 ≤ q[k] ∧ q[k] ≤ 100000000) (hl : q.length ≤ 1000) :
    Calls Try.prog 14 #[v] w fun e w' => e = .returned (.int .i64 (sumI q)) ∧ w = w' := by
  obtain ⟨a, b, off, c, rfl, hlen, hix, hc, hb⟩ := hv.view Try.prog 24 3 Try.underlying24 intElem
  have hbd : ∀ k, k ≤ q.length → -100000000 * (k : Int) ≤ (q.take k).foldl (· + ·) 0 ∧ (q.take k).foldl (· + ·) 0 ≤ 100000000 * (k : Int) := by
    intro k
    induction k with
    | zero => intro _; simp
    | succ k ih =>
      intro hk
      have := ih (by omega)
      rw [fold_take2 q k (by omega)]
      have h2 := h0 k (by omega)
      push_cast; omega
  have HB := Lib.hid hbd
  have H01 := Lib.hid h0
  clear hbd h0
  go_enter Try.func14, Try.ntmps14
  go_wp2_with fail
  go_loop [3, 4] (fun n i => ∃ k : Nat, k ≤ q.length ∧ i = .int .i64 k ∧ n = .int .i64 ((q.take k).foldl (· + ·) 0)) (fun _ i => q.length - (intOf i).toNat)
  case atStart => exact ⟨0, Nat.zero_le _, rfl, rfl⟩
  case round =>
    obtain ⟨k, hk, rfl, rfl⟩ := hrel
    have hb1 := HB.out k hk
    by_cases hlt : k < q.length
    · have hft := fold_take2 q k hlt
      have h2 := H01.out k hlt
      have ck := hc k hlt
      have ik := fun W => hix W k hlt
      obtain ⟨S, hS⟩ : ∃ S, S = (q.take k).foldl (· + ·) (0 : Int) := ⟨_, rfl⟩
      obtain ⟨x, hx⟩ : ∃ x, x = q[k] := ⟨_, rfl⟩
      rw [← hS] at hb1 hft ⊢
      rw [← hx] at ck h2 hft
      have hb10 := hb1.1
      have hb11 := hb1.2
      have h20 := h2.1
      have h21 := h2.2
      have HF := Lib.hid hft
      clear hft hS hx hc hix hb hb1 h2
      go_wp2
      go_round
      case rel => exact ⟨k + 1, by omega, by go_num, by rw [HF.out]⟩
      case measure => simp [intOf]; omega
    · have he : (q.take k).foldl (· + ·) 0 = sumI q := by unfold sumI; rw [List.take_of_length_le (by omega)]
      rw [he]
      clear he
      go_wp2
      go_ret
      exact ⟨rfl, rfl⟩
theorem shapL_bd (n : Nat) (hn : n ≤ 5) (l : List Int) (hl : l.length = 2 ^ n) (hlb : ∀ k, (hk : k < l.length) → -1000 ≤ l[k] ∧ l[k] ≤ 1000) : (shapL n l).length = n ∧ ∀ k, (h : k < (shapL n l).length) → -100000000 ≤ (shapL n l)[k] ∧ (shapL n l)[k] ≤ 100000000 := by
  have hlen : (shapL n l).length = n := by unfold shapL; simp
  refine ⟨hlen, fun k hk => ?_⟩
  rw [hlen] at hk
  have := shTo_bd l n k hn hk hl hlb (2 ^ n) (Nat.le_refl _)
  have h32 : (2 : Nat) ^ n ≤ 32 := Nat.pow_le_pow_right (n := 2) (by decide) hn
  have e : (shapL n l)[k]'(by rw [hlen]; exact hk) = shTo l n k (2 ^ n) := by unfold shapL; simp
  rw [e]
  omega
structure GameFacts (N : Nat) (l : List Int) : Prop where
  tot : 0 < N → sumI (shapL N l) = (fact N : Int) * (l.getD (l.length - 1) 0 - l.getD 0 0)
  fac : (fact N : Int) ≤ 120
  bd : (shapL N l).length = N ∧ ∀ k, (h : k < (shapL N l).length) → -100000000 ≤ (shapL N l)[k] ∧ (shapL N l)[k] ≤ 100000000
  fom : fomB N (masses l) = true ∧ fomL N (masses l) = l ∧ fomN N (masses l) = N
theorem gameFacts (N : Nat) (l : List Int) (hf : isFunB N l = true) : GameFacts N l := by
  obtain ⟨N', hN', hN5, hl2, hl32, hlb⟩ := fun_nat hf
  have hN' : N' = N := by omega
  subst hN'
  have hfb := fom_back N' l hf
  refine ⟨fun h0 => ?_, ?_, shapL_bd N' hN5 l hl2 hlb, hfb.1, hfb.2, by unfold fomN; rw [hfb.1]; rfl⟩
  · rw [shap_total N' hN5 h0 l, hl2]
  · have := fact_mono N' 5 hN5
    have e : fact 5 = 120 := by decide
    omega
end Go.Proofs.Ytgdkeaooipmgbaa
end
section
namespace Go.Proofs.Ytgdkeaooipmgbaa
open Go.RowKit Go.G5

set_option maxHeartbeats 2000000 in
set_option maxRecDepth 100000 in
theorem cornersS_any (w : World) (n : Int) (v : Value) (l : List Int) (hv : Ints w v l) (bb : Bool) (hbb : (isGrB n l && decide (n ≤ 4)) = bb) :
    Calls Try.prog 21 #[.agg #[.int .i64 n, v]] w fun e w' => ∃ a i c ls, e = .returned (.tuple #[.slice a i c, .bool bb]) ∧ OwnLL 3 24 w.heap.size w' (.slice a i c) ls ∧ ls.length ≤ 1000000 ∧ (∀ x ∈ ls, ∃ o : List Int, (o.length : Int) = n ∧ Dist o.length o ∧ x = cornerL l o) ∧ (bb = false → ls = []) ∧ Below w.heap.size w w' := by
  obtain ⟨a, c, rfl⟩ := hv.shape
  have K0 := Blk.new w 26 #[.int .i64 n, .slice a l.length c]
  cases hg : isGrB n l with
  | false =>
    have hb0 : bb = false := by rw [← hbb, hg]; rfl
    subst hb0
    have HG := Lib.hid hg
    clear hg hbb
    go_enter Try.func21, Try.ntmps21
    go_wp2_with fail
    refine calls_named ?_
    intro V hV
    have B : Below w.heap.size w V := by rw [hV]; exact bl2 _ _ _
    have K1 : Blk V w.heap.size 26 #[.int .i64 n, .slice a l.length c] := by rw [hV]; exact K0.alloc _
    have o0 : OwnLL 3 24 (w.heap.size + 1) V (.slice (some ⟨w.heap.size + 1, 0, none⟩) 0 0) [] := by
      rw [hV]
      have := OwnLL.lit0 (EI := 3) (EO := 24) (B := w.heap.size + 1) (w.alloc (.cells #[.int .i64 n, .slice a l.length c] 26)) (by simp)
      simpa using this
    have hVs : w.heap.size + 1 < V.heap.size := by rw [hV]; simp
    clear hV K0
    refine (isGrS_any n l _ _ (hv.below B (Nat.le_refl _))).mono ?_
    rintro e w1 ⟨rfl, hb1⟩
    have K1 := K1.keep hb1
    have o0 := o0.keep hb1
    have B1 := B.after hb1 B.size
    have hV1 := hb1.size
    clear hb1 B
    have G1 := K1.cell
    rw [HG.out]
    clear G1
    go_wp2
    go_ret2
    first | exact ⟨_, _, _, [], rfl, o0.mono (Nat.le_succ _), by simp, by simp, fun _ => rfl, B1⟩ | exact ⟨_, _, _, rfl, [], o0.mono (Nat.le_succ _), by simp, by simp, fun _ => rfl, B1⟩
  | true =>
    obtain ⟨N, rfl, hN5, hl2, hl32, hlb⟩ := fun_nat (grOk hg)
    have HL2 := Lib.hid hl2
    have HLB := Lib.hid hlb
    have HG := Lib.hid hg
    clear hl2 hlb
    by_cases h4 : N ≤ 4
    · have h4i : ((N : Int) ≤ 4) := by omega
      have h4n : ¬ (4 : Int) < (N : Int) := by omega
      have hb0 : bb = true := by rw [← hbb, hg, decide_eq_true h4i]; rfl
      subst hb0
      clear hg hbb
      go_enter Try.func21, Try.ntmps21
      go_wp2_with fail
      refine calls_named ?_
      intro V hV
      have B : Below w.heap.size w V := by rw [hV]; exact bl2 _ _ _
      have K1 : Blk V w.heap.size 26 #[.int .i64 (N : Int), .slice a l.length c] := by rw [hV]; exact K0.alloc _
      have o0 : OwnLL 3 24 (w.heap.size + 1) V (.slice (some ⟨w.heap.size + 1, 0, none⟩) 0 0) [] := by
        rw [hV]
        have := OwnLL.lit0 (EI := 3) (EO := 24) (B := w.heap.size + 1) (w.alloc (.cells #[.int .i64 (N : Int), .slice a l.length c] 26)) (by simp)
        simpa using this
      have hVs : w.heap.size + 1 < V.heap.size := by rw [hV]; simp
      clear hV K0
      refine (isGrS_any (N : Int) l _ _ (hv.below B (Nat.le_refl _))).mono ?_
      rintro e w1 ⟨rfl, hb1⟩
      have K1 := K1.keep hb1
      have o0 := o0.keep hb1
      have B1 := B.after hb1 B.size
      have hV1 := hb1.size
      clear hb1 B
      have G1 := K1.cell
      rw [HG.out]
      have yK := K1.lt
      have zB := B1.size
      go_wp2_with fail
      refine calls_named ?_
      intro V2 hV2
      have ol : OwnI 3 w1.heap.size V2 (.slice (some ⟨w1.heap.size, 0, none⟩) 0 0) [] := by rw [hV2]; exact OwnI.lit0 w1 (Nat.le_refl _)
      have b2 : Below w1.heap.size w1 V2 := by rw [hV2]; exact bl1 _ _
      have K2 := K1.keep b2
      have o0 := o0.keep b2
      have B2 := B1.after b2 B1.size
      have z2 := b2.size
      clear hV2 K1 G1
      refine (l8Orders_any N hN5 N [] _ V2 w1.heap.size (by simp) ⟨by simp, List.Pairwise.nil⟩ ol z2).mono ?_
      rintro e w3 ⟨p3, i3, q3, os, rfl, oo, hos, hod, b3⟩
      have hi3 : i3 = os.length := by
        obtain ⟨_, _, h, _⟩ := oo.len
        injection h
      subst hi3
      have K3 := K2.keep b3
      have o0 := o0.keep b3
      have B3 := B2.after b3 B2.size
      have h5N : os.length ≤ 3125 := Nat.le_trans hos (Nat.le_trans (Nat.pow_le_pow_right (by decide) hN5) (by decide))
      have hco := fun (o : List Int) (h : o ∈ os) (W : World) (u : Value) (h1 : Ints W (.slice a l.length c) l) (h2 : Ints W u o) => by
        have h3 := (hod o h).1
        have h4 := (hod o h).2
        have := l8Corner_any l o (.slice a l.length c) u W h1 h2 (by omega) (by rw [h3]; exact HL2.out) HLB.out (by rw [h3]; exact h4.bd)
        rw [h3] at this
        exact this
      have HCO := Lib.hid hco
      have HOD := Lib.hid hod
      have HOO := Lib.hid oo
      clear b3 K2 ol b2 hos hod oo hco
      go_wp2_with fail
      go_loopw [4, 6] (fun out i wr => ∃ (k : Nat) (ad : Option Addr) (nn cp : Nat) (ls : List (List Int)), k ≤ os.length ∧ i = .int .i64 k ∧ out = .slice ad nn cp ∧ OwnLL 3 24 (w.heap.size + 1) wr (.slice ad nn cp) ls ∧ ls.length ≤ k ∧ (∀ x ∈ ls, ∃ o : List Int, (o.length : Int) = (N : Int) ∧ Dist o.length o ∧ x = cornerL l o) ∧ OwnLL 3 24 w1.heap.size wr (.slice p3 os.length q3) os ∧ Blk wr w.heap.size 26 #[.int .i64 (N : Int), .slice a l.length c] ∧ Below w.heap.size w wr ∧ Apart (.slice p3 os.length q3) (.slice ad nn cp)) (fun _ i _ => os.length - (intOf i).toNat)
      case atStart =>
        refine ⟨0, _, _, _, [], Nat.zero_le _, rfl, rfl, o0, by simp, by simp, HOO.out, K3, B3, fun q h1 h2 => ?_⟩
        have e2 : w.heap.size + 1 = q := Option.some.inj h2
        have := (HOO.out.lt q h1).1
        omega
      case round =>
        obtain ⟨k, ad, nn, cp, ls, hk, rfl, rfl, o, hll, hls, op, Kr, Bw, ap⟩ := hrel
        clear o0 K3 B3
        have hnn : nn = ls.length := by
          obtain ⟨_, _, h, _⟩ := o.len
          injection h
        subst hnn
        have HLS := Lib.hid hls
        clear hls
        by_cases hkl : k < os.length
        · have hkl2 : (k : Int) < (os.length : Int) := by omega
          obtain ⟨g, u, hix, hcell, hu⟩ := op.view Try.prog 36 Try.underlying36 sliceElem k hkl
          have hcl := fun W (h1 : Ints W (.slice a l.length c) l) (h2 : Ints W u os[k]) => HCO.out os[k] (List.getElem_mem hkl) W u h1 h2
          have hod := HOD.out os[k] (List.getElem_mem hkl)
          have hex : ∃ o : List Int, (o.length : Int) = (N : Int) ∧ Dist o.length o ∧ cornerL l os[k] = cornerL l o := ⟨os[k], by rw [hod.1], by rw [hod.1]; exact hod.2, rfl⟩
          have HCL := Lib.hid hcl
          have HEX := Lib.hid hex
          obtain ⟨au, nu, cu, rfl⟩ := hu.shape3
          have hu0 := hu.ints
          obtain ⟨O, hO⟩ : ∃ O, O = os[k] := ⟨_, rfl⟩
          rw [← hO] at HCL HEX hu0 hu
          obtain ⟨X, hX⟩ : ∃ X, X = cornerL l O := ⟨_, rfl⟩
          rw [← hX] at HEX
          have HX := Lib.hid hX
          have G1 := Kr.cell
          have zB1 := Bw.size
          have ykr := Kr.lt
          have HO := Lib.hid o
          have HOP := Lib.hid op
          have HAP := Lib.hid ap
          clear hcl hod hex hO hX o op ap hu
          go_wp2_with fail
          go_region_law
            (go_simp; go_at_call 51; refine (HCL.out _ (hv.below Bw.drew (Nat.le_refl _)) (hu0.keep (Below.refl _ _).drew)).mono ?_; rintro e w4 ⟨p4, i4, q4, rfl, o4, b4⟩)
          all_goals
            have B4 := Bw.drew.after b4 Bw.size
            have K4 : Blk w4 w.heap.size 26 #[.int .i64 (N : Int), .slice a l.length c] := (show Blk wr.drew w.heap.size 26 #[.int .i64 (N : Int), .slice a l.length c] from Kr).keep b4
            have o := (HO.out.keep (Below.refl _ _).drew).keep b4
            have op := (HOP.out.keep (Below.refl _ _).drew).keep b4
            have oX := o4.mono (B' := w.heap.size + 1) ykr
            rw [← HX.out] at oX
            have hi4 : i4 = X.length := oX.ints.capLe.1
            subst hi4
            clear o4 b4 G1 hcell
            have HO4 := Lib.hid o
            have HOP4 := Lib.hid op
            have HOX := Lib.hid oX
            have ls9 : ls.length ≤ 3125 := by omega
            clear o op oX
            go_wp2_with fail
            go_loopw [8, 9] (fun f i wr => ∃ (j : Nat) (b : Bool), j ≤ ls.length ∧ i = .int .i64 j ∧ f = .bool b ∧ Below w4.heap.size w4 wr) (fun _ i _ => ls.length - (intOf i).toNat)
            case atStart => exact ⟨0, true, Nat.zero_le _, rfl, rfl, Below.refl _ _⟩
            case round =>
              obtain ⟨j, bb, hj, rfl, rfl, Bi⟩ := hrel
              by_cases hjl : j < ls.length
              · have hjl2 : (j : Int) < (ls.length : Int) := by omega
                cases bb with
                | false =>
                  go_wp2
                  go_roundw
                  case rel => exact ⟨j + 1, false, by omega, by go_num, rfl, Bi⟩
                  case measure => simp [intOf]; omega
                | true =>
                  obtain ⟨gj, uj, hixj, hcj, huj⟩ := (HO4.out.keep Bi).view Try.prog 36 Try.underlying36 sliceElem j hjl
                  have huji := huj.ints
                  have hsm := l2Same_any uj _ ls[j] X wr huji (HOX.out.keep Bi).ints
                  have HSM := Lib.hid hsm
                  clear hsm huj huji
                  go_wp2_with fail
                  refine HSM.out.mono ?_
                  rintro e w5 ⟨rfl, nq, rfl⟩
                  go_wp2
                  go_roundw
                  case rel => exact ⟨j + 1, _, by omega, by go_num, rfl, Bi.drewN' _⟩
                  case measure => simp [intOf]; omega
              · have hjl2 : ¬ (j : Int) < (ls.length : Int) := by omega
                have B5 := B4.after Bi B4.size
                have K5 := K4.keep Bi
                have o5 := HO4.out.keep Bi
                have op5 := HOP4.out.keep Bi
                have oX5 := HOX.out.keep Bi
                cases bb with
                | false =>
                  go_wp2
                  go_roundw
                  case rel => exact ⟨k + 1, ad, _, cp, ls, by omega, by go_num, rfl, o5, by omega, HLS.out, op5, K5, B5, HAP.out⟩
                  case measure => simp [intOf]; omega
                | true =>
                  have z5 := B5.size
                  have yb5 := K5.lt
                  go_wp2_with (at_builtin; refine wpList_appendLL rfl _ _ _ rfl Try.underlying36 sliceElem noMeet (w.heap.size + 1) _ ls rfl (o5.alloc _) (w.heap.size + 1) _ [X] rfl (OwnLL.one oX5 (by omega)) (Nat.le_refl _) (by simp; omega) (by simp; omega) ?_; intro v7 w7 o7 g7 n7)
                  obtain ⟨a7, i7, c7, rfl⟩ := o7.shape3
                  obtain ⟨vs5, hr5⟩ := (o5.alloc (.cells #[.slice p4 X.length q4] 24)).row
                  have op7 := (op5.alloc (.cells #[.slice p4 X.length q4] 24)).grow hr5 noMeet g7 (fun q h1 h2 => HAP.out q h2 h1)
                  have K7 := (K5.alloc (.cells #[.slice p4 X.length q4] 24)).grow g7 (fun e => by have := (o5.lt _ e).1; omega)
                  have B7 := (B5.after (bl1 wr (.cells #[.slice p4 X.length q4] 24)) z5).grown g7 (by simp; omega) (fun q hq => by have := (o5.lt q hq).1; omega)
                  have ap7 := (n7.apart (Apart.symm HAP.out) (fun q hq => ((op5.alloc (.cells #[.slice p4 X.length q4] 24)).lt q hq).2)).symm
                  go_roundw
                  case rel =>
                    refine ⟨k + 1, a7, i7, c7, ls ++ [X], by omega, by go_num, rfl, o7, by simp; omega, fun x hx => ?_, op7, K7, B7, ap7⟩
                    rcases List.mem_append.1 hx with hx | hx
                    · exact HLS.out x hx
                    · rw [List.mem_singleton.1 hx]; exact HEX.out
                  case measure => simp [intOf]; omega
        · have hkl2 : ¬ (k : Int) < (os.length : Int) := by omega
          go_wp2
          go_ret2
          first | exact ⟨_, _, _, ls, rfl, o.mono (Nat.le_succ _), by omega, HLS.out, nofun, Bw⟩ | exact ⟨_, _, _, rfl, ls, o.mono (Nat.le_succ _), by omega, HLS.out, nofun, Bw⟩ | exact ⟨_, _, _, ls, rfl, o.mono (Nat.le_succ _), by omega, HLS.out, Bw⟩ | exact ⟨_, _, _, rfl, ls, o.mono (Nat.le_succ _), by omega, HLS.out, Bw⟩
    · have h4n : (4 : Int) < (N : Int) := by omega
      have hb0 : bb = false := by rw [← hbb, hg, decide_eq_false (by omega)]; rfl
      subst hb0
      clear hg hbb
      go_enter Try.func21, Try.ntmps21
      go_wp2_with fail
      refine calls_named ?_
      intro V hV
      have B : Below w.heap.size w V := by rw [hV]; exact bl2 _ _ _
      have K1 : Blk V w.heap.size 26 #[.int .i64 (N : Int), .slice a l.length c] := by rw [hV]; exact K0.alloc _
      have o0 : OwnLL 3 24 (w.heap.size + 1) V (.slice (some ⟨w.heap.size + 1, 0, none⟩) 0 0) [] := by
        rw [hV]
        have := OwnLL.lit0 (EI := 3) (EO := 24) (B := w.heap.size + 1) (w.alloc (.cells #[.int .i64 (N : Int), .slice a l.length c] 26)) (by simp)
        simpa using this
      have hVs : w.heap.size + 1 < V.heap.size := by rw [hV]; simp
      clear hV K0
      refine (isGrS_any (N : Int) l _ _ (hv.below B (Nat.le_refl _))).mono ?_
      rintro e w1 ⟨rfl, hb1⟩
      have K1 := K1.keep hb1
      have o0 := o0.keep hb1
      have B1 := B.after hb1 B.size
      have hV1 := hb1.size
      clear hb1 B
      have G1 := K1.cell
      rw [HG.out]
      go_wp2
      go_ret2
      first | exact ⟨_, _, _, [], rfl, o0.mono (Nat.le_succ _), by simp, by simp, fun _ => rfl, B1⟩ | exact ⟨_, _, _, rfl, [], o0.mono (Nat.le_succ _), by simp, by simp, fun _ => rfl, B1⟩
end Go.Proofs.Ytgdkeaooipmgbaa
end
