/- The statement FnCounts: for every input the call returns true and each argument reads as it did. No condition. -/
import Derived.Test.YtdagcdgbdhecgaaGreatQ39
section
namespace Go.Proofs.YtdagcdgbdhecgaaGreat
open Go.ChangeShapes Go.WideShapes Go.ChangeAt Go.RowKit Go.G5
theorem mat_any (n : Int) : ∃ N : Nat, (matL n = [] ∨ n = N) ∧ MatFacts N (matL n) ∧ (inB n 0 3 = true → n = N ∧ N ≤ 3) := by
  cases h : inB n 0 3 with
  | false =>
    have hm : matL n = [] := by unfold matL; rw [h]; rfl
    exact ⟨0, .inl hm, by rw [hm]; exact ⟨by simp, by simp, by simp, by simp⟩, by simp⟩
  | true =>
    obtain ⟨N, h1, h2, h3⟩ := matFacts n h
    exact ⟨N, .inr h1, h3, fun _ => ⟨h1, h2⟩⟩
set_option maxHeartbeats 16000000 in
set_option maxRecDepth 100000 in
theorem counts_walk (w : World) (v : Value) (l : List Nat) (hv : Byts w v l) :
    Calls Tryz.prog 3 #[v] w fun e w' => e = .returned (.bool true) ∧ Below w.heap.size w w' := by
  have hv0 := hv
  obtain ⟨av, cv, rfl, _⟩ := hv
  go_enter Tryz.func3, Tryz.ntmps3
  go_wp2_with fail
  refine (big_any w _ l hv0).mono ?_
  rintro e w0 ⟨rfl, rfl⟩
  cases hbig : decide ((1048576 : Int) < l.length) with
  | true =>
    go_wp2
    go_ret
    exact ⟨rfl, Below.refl _ _⟩
  | false =>
  clear hbig
  go_wp2_with fail
  refine (drawMat_any w _ l hv0).mono ?_
  rintro e W1 ⟨n, rfl, hn, B⟩
  clear hv0
  go_wp2_with fail
  refine (matIF_any W1 n).mono ?_
  rintro e W2 ⟨p2, i2, q2, its, rfl, f2, r2, b2, u2, u3⟩
  clear u2 u3
  have B := B.after b2 B.size
  obtain ⟨a, b, c, hs2, M2⟩ := MatV.of f2 r2
  injection hs2 with e1 e2 e3
  subst e1 e2 e3
  clear f2 r2 b2
  go_wp2_with fail
  refine (matSF_any W2 n).mono ?_
  rintro e W3 ⟨p3, i3, q3, jts, rfl, f3, r3, b3⟩
  have B := B.after b3 B.size
  have M2 := M2.keep b3
  obtain ⟨a', b', c', hs3, M3⟩ := MatV.of f3 r3
  injection hs3 with e1 e2 e3
  subst e1 e2 e3
  clear f3 r3 b3
  have hlen : (matL n).length ≤ 65536 := by have := (matF_bd n).1; unfold matF at this; rw [List.length_map] at this; exact this
  obtain ⟨L, hL⟩ : ∃ L, L = matL n := ⟨_, rfl⟩
  rw [← hL] at M2 M3 hlen ⊢
  obtain ⟨N, hN1, hN2, hN3⟩ := mat_any n
  rw [← hL] at hN1 hN2
  have HLn := Lib.hid hL
  have HF := Lib.hid hN2
  have HN1 := Lib.hid hN1
  have HN3 := Lib.hid hN3
  have C1 := Lib.hid (fun W => cntMI_c W n hn)
  have C2 := Lib.hid (fun W => CountAntichainsI_c W n hn)
  have C3 := Lib.hid (fun W => CountLaminarI_c W n hn)
  have C4 := Lib.hid (fun W => CountIntersectingI_c W n hn)
  have C5 := Lib.hid (fun W => CountDownClosedI_c W n hn)
  have C6 := Lib.hid (fun W => cntMS_c W n hn)
  have C7 := Lib.hid (fun W => cntAntiS_c W n hn)
  have C8 := Lib.hid (fun W => cntLamS_c W n hn)
  have C9 := Lib.hid (fun W => cntInterS_c W n hn)
  have C10 := Lib.hid (fun W => CountDownClosedS_c W n hn)
  clear hL hN1 hN2 hN3 hn
  go_wp2_with fail
  refine (sameFuns_any W3 p2 p3 b b' q2 q3 n L hlen M2 M3).mono ?_
  rintro e W4 ⟨rfl, b4⟩
  have B := B.after b4 B.size
  have M := M3.keep b4
  clear M2 M3 b4
  go_wp2_with fail
  go_loopw [8] (fun i wr => ∃ k : Nat, k ≤ L.length ∧ i = .int .i64 k ∧ Below w.heap.size w wr ∧ MatV wr p3 b' q3 n L) (fun i _ => L.length - (intOf i).toNat)
  case atStart => exact ⟨0, Nat.zero_le _, rfl, B, M⟩
  case round =>
    obtain ⟨k, hk, rfl, Br, Mr⟩ := hrel
    clear B M
    obtain ⟨wz, hwz⟩ : ∃ wz : World, wz = wr := ⟨_, rfl⟩
    subst hwz
    by_cases hlt : k < L.length
    · have hnN : n = N := by
        rcases HN1.out with h | h
        · rw [h] at hlt; simp at hlt
        · exact h
      subst hnN
      obtain ⟨r1, c1, d1, s1⟩ := Mr.c k hlt
      have i1 := fun W => Mr.ix W k hlt
      have hmem := List.getElem_mem hlt
      have hrk := HF.out.rank _ hmem
      have hmd := HF.out.made _ hmem
      have hdu := HF.out.dual _ hmem
      have hl8 : L[k].length ≤ 1048576 := by
        obtain ⟨_, _, _, _, h32, _⟩ := fun_nat (poly_fun (by have h := hrk; unfold rankB at h; rw [Bool.and_eq_true] at h; exact h.1))
        omega
      obtain ⟨q, hq⟩ : ∃ q, q = 2 * k := ⟨_, rfl⟩
      rw [← hq] at c1 d1
      simp only [← hq] at i1
      obtain ⟨D, hD⟩ : ∃ D, D = duL (onesL N) L[k] := ⟨_, rfl⟩
      have hdr := fun (W : World) (h : Ints W r1 L[k]) => dualRank_any W N r1 L[k] hrk hmd h hl8
      rw [← hD] at hdu
      simp only [← hD] at hdr
      have HDR := Lib.hid hdr
      have HDU := Lib.hid hdu
      have HRK := Lib.hid hrk
      clear hrk hmd hdu hdr hD hmem hq
      go_wp2_with fail
      refine (rankI_any N L[k] r1 wz s1 hl8).mono ?_
      rintro e w1 ⟨rfl, b1⟩
      rw [HRK.out]
      have Br := Br.after b1 Br.size
      have M1 := Mr.keep b1
      have s1 := s1.keep b1
      have c1 := keep b1 c1
      have d1 := keep b1 d1
      clear Mr b1
      go_wp2_with fail
      refine (HDR.out w1 s1).mono ?_
      rintro e w2 ⟨p5, i5, q5, rfl, o5, b2⟩
      have Br := Br.after b2 Br.size
      have M2 := M1.keep b2
      have o5 := o5.ints
      obtain ⟨a5, c5, hs5⟩ := o5.shape
      injection hs5 with e1 e2 e3
      subst e1 e2 e3
      clear M1 b2 s1 c1 d1
      have hix := fun W (j : Nat) (h : j < L.length) => M2.ix W j h
      have HIX := Lib.hid hix
      clear i1 hix
      go_wp2_with fail
      go_loopw [11, 12] (fun f i wr => ∃ j : Nat, j ≤ L.length ∧ i = .int .i64 j ∧ f = .bool (decide (D ∈ L.take j)) ∧ Below w.heap.size w wr ∧ MatV wr p3 b' q3 N L ∧ Blk wr w2.heap.size 32 #[.int .i64 N, .slice p5 D.length q5] ∧ Ints wr (.slice p5 D.length q5) D) (fun _ i _ => L.length - (intOf i).toNat)
      case atStart =>
        refine ⟨0, Nat.zero_le _, rfl, by simp, ?_, ?_, ?_, ?_⟩
        · exact Br.after (bl1 _ _) Br.size
        · exact M2.keep (bl1 _ _)
        · exact Blk.new _ _ _
        · exact o5.alloc _
      case round =>
        obtain ⟨j, hj, rfl, rfl, Br, M3, K3, o3⟩ := hrel
        clear M2 o5
        have G3 := K3.cell
        by_cases hj2 : j < L.length
        · obtain ⟨r1, c1, d1, s1⟩ := M3.c j hj2
          obtain ⟨r2, c2, d2, s2⟩ := M3.c k hlt
          have i1 := fun W => HIX.out W j hj2
          have i2 := fun W => HIX.out W k hlt
          have HSU := Lib.hid (take_mem_succ L D j hj2)
          obtain ⟨q, hq⟩ : ∃ q, q = 2 * j := ⟨_, rfl⟩
          obtain ⟨p, hp⟩ : ∃ q, q = 2 * k := ⟨_, rfl⟩
          rw [← hq] at c1 d1
          rw [← hp] at c2 d2
          simp only [← hq] at i1
          simp only [← hp] at i2
          clear hq hp
          have QE := fun y : Ext wr => equalFunctionsS_any (N : Int) (N : Int) _ _ L[j] D y.w (y.ints s1) (y.ints o3)
          rw [show (decide ((N : Int) = (N : Int)) && decide (L[j] = D)) = decide (L[j] = D) by simp] at QE
          have QE := Lib.hid QE
          cases hf : decide (D ∈ L.take j) with
          | false =>
            rw [hf] at HSU
            obtain ⟨fb, hfb⟩ : ∃ q, decide (L[j] = D) = q := ⟨_, rfl⟩
            rw [hfb] at HSU QE
            have g1 : ∀ y : Ext wr, y.w.cell? ⟨b', q, none⟩ = some (.int .i64 N) := fun y => y.cell c1
            have g2 : ∀ y : Ext wr, y.w.cell? ⟨b', q + 1, none⟩ = some r1 := fun y => y.cell d1
            have g3 : ∀ y : Ext wr, y.w.cell? ⟨w2.heap.size, 0, none⟩ = some (.int .i64 N) := fun y => y.cell (G3 0)
            have g4 : ∀ y : Ext wr, y.w.cell? ⟨w2.heap.size, 1, none⟩ = some (.slice p5 D.length q5) := fun y => y.cell (G3 1)
            clear hf hfb G3
            go_wp2_with fail
            refine wp_region_ext _ (by kernel_rfl) (by kernel_rfl) ?_
            repeat (first | go_big_quiet_skip | (go_big_quiet_want; go_big_quiet_op; first | go_big_quiet_on | (apply Exists.intro; refine ⟨fun _ => ?_, ?_⟩; (go_at_call 11; with_reducible exact ext_call (QE.out _)); go_big_quiet_on)))
            refine wpQuiet_nil ?_
            rintro W9 ⟨⟨W9, b9⟩, rfl⟩
            try dsimp only
            clear g1 g2 g3 g4 QE
            cases hq : decide (j < k) with
            | true =>
              have hjk : j < k := of_decide_eq_true hq
              have hji : ((j : Int) < (k : Int)) := by omega
              have t1 : decide ((j : Int) < (k : Int)) = true := decide_eq_true hji
              have hne := HF.out.once k j hlt hj2 hjk
              have QF := fun y : Ext W9 => equalFunctionsS_any (N : Int) (N : Int) _ _ L[j] L[k] y.w (y.ints (s1.keep b9)) (y.ints (s2.keep b9))
              rw [show (decide ((N : Int) = (N : Int)) && decide (L[j] = L[k])) = false by simp [hne]] at QF
              have QF := Lib.hid QF
              have g1 : ∀ y : Ext W9, y.w.cell? ⟨b', q, none⟩ = some (.int .i64 N) := fun y => y.cell (keep b9 c1)
              have g2 : ∀ y : Ext W9, y.w.cell? ⟨b', q + 1, none⟩ = some r1 := fun y => y.cell (keep b9 d1)
              have g3 : ∀ y : Ext W9, y.w.cell? ⟨b', p, none⟩ = some (.int .i64 N) := fun y => y.cell (keep b9 c2)
              have g4 : ∀ y : Ext W9, y.w.cell? ⟨b', p + 1, none⟩ = some r2 := fun y => y.cell (keep b9 d2)
              clear hjk hji hne c1 d1 c2 d2 s1 s2
              go_wp2_with fail
              refine wp_region_ext _ (by kernel_rfl) (by kernel_rfl) ?_
              repeat (first | go_big_quiet_skip | (go_big_quiet_want; go_big_quiet_op; first | go_big_quiet_on | (apply Exists.intro; refine ⟨fun _ => ?_, ?_⟩; (go_at_call 11; with_reducible exact ext_call (QF.out _)); go_big_quiet_on)))
              refine wpQuiet_nil ?_
              rintro w10 ⟨⟨w10, hb10⟩, rfl⟩
              try dsimp only
              have b10 := b9.after hb10 b9.size
              go_wp2
              go_roundw
              case rel => exact ⟨j + 1, by omega, by go_num, (by rw [HSU.out]; rfl), Br.after b10 Br.size, M3.keep b10, K3.keep b10, o3.keep b10⟩
              case measure => simp [intOf]; omega
            | false =>
              have hjk : ¬ j < k := of_decide_eq_false hq
              have hji : ¬ ((j : Int) < (k : Int)) := by omega
              have t1 : decide ((j : Int) < (k : Int)) = false := decide_eq_false hji
              clear hjk hji c1 d1 c2 d2 s1 s2
              go_wp2_with fail
              refine wp_region_ext _ (by kernel_rfl) (by kernel_rfl) ?_
              repeat (first | go_big_quiet_skip | (go_big_quiet_want; go_big_quiet_op; first | go_big_quiet_on | (apply Exists.intro; refine ⟨fun _ => ?_, ?_⟩; (fail); go_big_quiet_on)))
              refine wpQuiet_nil ?_
              rintro w10 ⟨⟨w10, hb10⟩, rfl⟩
              try dsimp only
              have b10 := b9.after hb10 b9.size
              go_wp2
              go_roundw
              case rel => exact ⟨j + 1, by omega, by go_num, (by rw [HSU.out]; rfl), Br.after b10 Br.size, M3.keep b10, K3.keep b10, o3.keep b10⟩
              case measure => simp [intOf]; omega
          | true =>
            rw [hf] at HSU
            clear hf G3 QE
            go_wp2_with fail
            refine wp_region_ext _ (by kernel_rfl) (by kernel_rfl) ?_
            repeat (first | go_big_quiet_skip | (go_big_quiet_want; go_big_quiet_op; first | go_big_quiet_on | (apply Exists.intro; refine ⟨fun _ => ?_, ?_⟩; (fail); go_big_quiet_on)))
            refine wpQuiet_nil ?_
            rintro W9 ⟨⟨W9, b9⟩, rfl⟩
            try dsimp only
            cases hq : decide (j < k) with
            | true =>
              have hjk : j < k := of_decide_eq_true hq
              have hji : ((j : Int) < (k : Int)) := by omega
              have t1 : decide ((j : Int) < (k : Int)) = true := decide_eq_true hji
              have hne := HF.out.once k j hlt hj2 hjk
              have QF := fun y : Ext W9 => equalFunctionsS_any (N : Int) (N : Int) _ _ L[j] L[k] y.w (y.ints (s1.keep b9)) (y.ints (s2.keep b9))
              rw [show (decide ((N : Int) = (N : Int)) && decide (L[j] = L[k])) = false by simp [hne]] at QF
              have QF := Lib.hid QF
              have g1 : ∀ y : Ext W9, y.w.cell? ⟨b', q, none⟩ = some (.int .i64 N) := fun y => y.cell (keep b9 c1)
              have g2 : ∀ y : Ext W9, y.w.cell? ⟨b', q + 1, none⟩ = some r1 := fun y => y.cell (keep b9 d1)
              have g3 : ∀ y : Ext W9, y.w.cell? ⟨b', p, none⟩ = some (.int .i64 N) := fun y => y.cell (keep b9 c2)
              have g4 : ∀ y : Ext W9, y.w.cell? ⟨b', p + 1, none⟩ = some r2 := fun y => y.cell (keep b9 d2)
              clear hjk hji hne c1 d1 c2 d2 s1 s2
              go_wp2_with fail
              refine wp_region_ext _ (by kernel_rfl) (by kernel_rfl) ?_
              repeat (first | go_big_quiet_skip | (go_big_quiet_want; go_big_quiet_op; first | go_big_quiet_on | (apply Exists.intro; refine ⟨fun _ => ?_, ?_⟩; (go_at_call 11; with_reducible exact ext_call (QF.out _)); go_big_quiet_on)))
              refine wpQuiet_nil ?_
              rintro w10 ⟨⟨w10, hb10⟩, rfl⟩
              try dsimp only
              have b10 := b9.after hb10 b9.size
              go_wp2
              go_roundw
              case rel => exact ⟨j + 1, by omega, by go_num, (by rw [HSU.out]; rfl), Br.after b10 Br.size, M3.keep b10, K3.keep b10, o3.keep b10⟩
              case measure => simp [intOf]; omega
            | false =>
              have hjk : ¬ j < k := of_decide_eq_false hq
              have hji : ¬ ((j : Int) < (k : Int)) := by omega
              have t1 : decide ((j : Int) < (k : Int)) = false := decide_eq_false hji
              clear hjk hji c1 d1 c2 d2 s1 s2
              go_wp2_with fail
              refine wp_region_ext _ (by kernel_rfl) (by kernel_rfl) ?_
              repeat (first | go_big_quiet_skip | (go_big_quiet_want; go_big_quiet_op; first | go_big_quiet_on | (apply Exists.intro; refine ⟨fun _ => ?_, ?_⟩; (fail); go_big_quiet_on)))
              refine wpQuiet_nil ?_
              rintro w10 ⟨⟨w10, hb10⟩, rfl⟩
              try dsimp only
              have b10 := b9.after hb10 b9.size
              go_wp2
              go_roundw
              case rel => exact ⟨j + 1, by omega, by go_num, (by rw [HSU.out]; rfl), Br.after b10 Br.size, M3.keep b10, K3.keep b10, o3.keep b10⟩
              case measure => simp [intOf]; omega
        · have hjl : j = L.length := by omega
          have hft : decide (D ∈ L.take j) = true := by rw [hjl, List.take_length]; exact decide_eq_true HDU.out
          rw [hft]
          have hjn : ¬ ((j : Int) < (L.length : Int)) := by omega
          clear hft hjl G3
          go_wp2
          go_roundw
          case rel => exact ⟨k + 1, by omega, by go_num, Br, M3⟩
          case measure => simp [intOf]; omega
    · have hkn : ¬ ((k : Int) < (L.length : Int)) := by omega
      clear hlt
      have Bz := Br
      clear Br
      go_wp2_with fail
      refine (C1.out wz).mono ?_
      rintro e w1 ⟨rfl, b1⟩
      have Bz := Bz.after b1 Bz.size
      go_wp2_with fail
      refine (C2.out w1).mono ?_
      rintro e w2 ⟨rfl, b2⟩
      have Bz := Bz.after b2 Bz.size
      go_wp2_with fail
      refine (C3.out w2).mono ?_
      rintro e w3 ⟨rfl, b3⟩
      have Bz := Bz.after b3 Bz.size
      go_wp2_with fail
      refine (C4.out w3).mono ?_
      rintro e w4 ⟨rfl, b4⟩
      have Bz := Bz.after b4 Bz.size
      go_wp2_with fail
      refine (C5.out w4).mono ?_
      rintro e w5 ⟨rfl, b5⟩
      have Bz := Bz.after b5 Bz.size
      clear b1 b2 b3 b4 b5 Mr
      go_wp2_with fail
      refine (C6.out w5).mono ?_
      rintro e w6 ⟨rfl, b6⟩
      have Bz := Bz.after b6 Bz.size
      go_wp2_with fail
      refine (C7.out w6).mono ?_
      rintro e w7 ⟨rfl, b7⟩
      have Bz := Bz.after b7 Bz.size
      go_wp2_with fail
      refine (C8.out w7).mono ?_
      rintro e w8 ⟨rfl, b8⟩
      have Bz := Bz.after b8 Bz.size
      go_wp2_with fail
      refine (C9.out w8).mono ?_
      rintro e w9 ⟨rfl, b9⟩
      have Bz := Bz.after b9 Bz.size
      go_wp2_with fail
      refine (C10.out w9).mono ?_
      rintro e w10 ⟨rfl, b10⟩
      have Bz := Bz.after b10 Bz.size
      clear b6 b7 b8 b9 b10 C1 C2 C3 C4 C5 C6 C7 C8 C9 C10
      cases hin : inB n 0 3 with
      | false =>
        go_wp2
        go_ret
        exact ⟨rfl, Bz⟩
      | true =>
        obtain ⟨rfl, h3⟩ := HN3.out hin
        have F := cntFacts N h3
        have fa := F.a
        rw [← HLn.out] at fa
        have fb := F.b
        have fe := F.e
        have fd := F.d
        obtain ⟨qa, ha⟩ : ∃ q, q = cntM (N : Int) := ⟨_, rfl⟩
        obtain ⟨qb, hb⟩ : ∃ q, q = cntOf qAntiI (N : Int) := ⟨_, rfl⟩
        obtain ⟨qe, he⟩ : ∃ q, q = cntOf qDown (N : Int) := ⟨_, rfl⟩
        obtain ⟨qd, hd⟩ : ∃ q, q = cntOf qInterI (N : Int) := ⟨_, rfl⟩
        rw [← ha] at fa
        rw [← hb] at fb
        rw [← he] at fe
        rw [← hd] at fd
        rw [← ha, ← hb, ← he, ← hd]
        clear ha hb he hd
        have hL := fa.1
        have fa := fa.2
        rw [fa] at hL
        have h4 : N = 0 ∨ N = 1 ∨ N = 2 ∨ N = 3 := by omega
        subst fa fb fe fd
        clear h3 HN3 HN1 HF HLn hin F
        rcases h4 with rfl | rfl | rfl | rfl
        · have hL : L.length = 1 := by have := hL; simp [tabA] at this; omega
          simp only [tabA, tabB, tabD, List.getD_cons_zero, hL]
          go_wp2
          go_ret
          exact ⟨rfl, Bz.after (bl3 _ _ _ _) Bz.size⟩
        · have hL : L.length = 2 := by have := hL; simp [tabA] at this; omega
          simp only [tabA, tabB, tabD, List.getD_cons_zero, List.getD_cons_succ, hL]
          go_wp2
          go_ret
          exact ⟨rfl, Bz.after (bl3 _ _ _ _) Bz.size⟩
        · have hL : L.length = 5 := by have := hL; simp [tabA] at this; omega
          simp only [tabA, tabB, tabD, List.getD_cons_zero, List.getD_cons_succ, hL]
          go_wp2
          go_ret
          exact ⟨rfl, Bz.after (bl3 _ _ _ _) Bz.size⟩
        · have hL : L.length = 16 := by have := hL; simp [tabA] at this; omega
          simp only [tabA, tabB, tabD, List.getD_cons_zero, List.getD_cons_succ, hL]
          go_wp2
          go_ret
          exact ⟨rfl, Bz.after (bl3 _ _ _ _) Bz.size⟩

theorem fnCounts_params : Tryz.f3.params = #[22] := by kernel_rfl
set_option maxRecDepth 100000 in
theorem fnCounts_lifted (os : Os) (started : os.Started) (H : Type) (enc : TypeId × Value → H) :
    ReturnsInHanded {} Tryz.checked os 3 .any (Rows.fnCountsSpec.pre6 enc Tryz.prog Tryz.f3 Rows.fnCountsRow.domain false) (Rows.fnCountsSpec.post enc Tryz.prog Tryz.f3 false true false false) := by
  refine law_lift os started H enc Tryz.func3 (by kernel_rfl) rfl (by kernel_rfl) (by kernel_rfl) ?_
    (ChangeSpec.witness6 (enc := enc) (C := Tryz.checked) false ⟨#[], #[.slice none 0 0], []⟩ 8 (by kernel_rfl) (by kernel_rfl) (by kernel_rfl) (by kernel_rfl)) ?_
  · intro ds hds
    rw [fnCounts_params] at hds
    match ds, hds with
    | [d0], _ => rfl
  · intro W base args ds p hval hA
    rw [fnCounts_params] at hA hval
    obtain ⟨v0, vs0, d0, ds0, p0, q0, hargs, rfl, rfl, h0, r0⟩ := trodAll_cons hA
    obtain ⟨rfl, rfl, rfl⟩ := trodAll_nil r0
    obtain rfl : args = #[v0] := by cases args; simp_all
    obtain ⟨l0, w0⟩ := rd_bytes (hval 0 22 v0 rfl rfl) h0
    exact counts_walk W _ l0 w0

theorem fnCounts_holds : Rows.FnCountsSaid :=
  OpenClaim.holds_of_wide 3 Tryz.f3 rfl rfl rfl rfl rfl rfl rfl ⟨rfl, rfl, rfl, rfl, rfl⟩ rfl rfl rfl rfl rfl (by kernel_rfl) Tryz.func3 (by kernel_rfl)
    (of_decide_eq_true (by kernel_rfl)) (by unfold Func.isWrapper; first | (rw [if_pos (by decide +kernel)]; kernel_rfl) | (rw [if_neg (by decide +kernel)]; exact ⟨rfl, rfl⟩))
    (fun os started H enc _ => fnCounts_lifted os started H enc)
end Go.Proofs.YtdagcdgbdhecgaaGreat
end
