/- Draws: functions, any of them. -/
import Derived.Test.YtgdkeaooipmgbaaQ10
section
namespace Go.Proofs.Ytgdkeaooipmgbaa
open Go.RowKit Go.G5

theorem fun_tail {w WL Wf : World} {g B : Nat} {n : Int} {ad : Option Addr} {i cp : Nat} {l : List Int} (C : Cur w WL g) (K : Blk WL w.heap.size 26 #[.int .i64 0, .slice none 0 0]) (o : OwnI 3 B WL (.slice ad i cp) l) (hB : w.heap.size < B)
    (hWf : Wf = (WL.setCell ⟨w.heap.size, 0, none⟩ (.int .i64 n)).setCell ⟨w.heap.size, 1, none⟩ (.slice ad i cp)) : Blk Wf w.heap.size 26 #[.int .i64 n, .slice ad i cp] ∧ Cur w Wf g ∧ OwnI 3 w.heap.size Wf (.slice ad i cp) l := by
  have gf : WL.grownBy Wf (some w.heap.size) := by rw [hWf]; exact grow_set (grow_set (World.grownBy.refl _ _) 0 _) 1 _
  refine ⟨?_, C.row gf (fun b e => by have := Option.some.inj e; omega), (o.grow gf (fun q hq e => by have := Option.some.inj hq; have := (o.lt _ e).1; omega)).mono (by omega)⟩
  rw [hWf]
  have := (K.set 0 (.int .i64 n)).set 1 (.slice ad i cp)
  simpa using this
theorem Cur.drewN {w wr : World} {g : Nat} (h : Cur w wr g) (n : Nat) : Cur w (wr.drewN n) g := h.keep ((Below.refl _ _).drewN' n)
theorem mem_set_bd {L : List Int} {s : Nat} {y a b : Int} (h : ∀ x ∈ L, a ≤ x ∧ x ≤ b) (hy : a ≤ y ∧ y ≤ b) : ∀ x ∈ L.set s y, a ≤ x ∧ x ≤ b := by
  intro x hx
  rcases List.mem_or_eq_of_mem_set hx with hx | hx
  · exact h x hx
  · rw [hx]; exact hy
set_option maxHeartbeats 8000000 in
set_option maxRecDepth 100000 in
theorem l2Draw_any (w : World) (g : Nat) (D : Dr w g) :
    Calls Try.prog 77 #[.pointer (some ⟨g, 0, none⟩), .int .i64 4] w fun e w' => ∃ (N : Nat) (ad : Option Addr) (i cp : Nat) (l : List Int), e = .returned (.agg #[.int .i64 (N : Int), .slice ad i cp]) ∧ N ≤ 4 ∧ OwnI 3 w.heap.size w' (.slice ad i cp) l ∧ l.length = 2 ^ N ∧ (∀ x ∈ l, -1300 ≤ x ∧ x ≤ 1000) ∧ Dr w' g ∧ w.grownBy w' (some g) := by
  go_enter Try.func77, Try.ntmps77
  go_wp2_with fail
  refine calls_named ?_
  intro V hV
  have C : Cur w V g := by rw [hV]; exact (Cur.start D).alloc _
  have K : Blk V w.heap.size 26 #[.int .i64 0, .slice none 0 0] := by rw [hV]; exact Blk.new _ _ _
  clear hV
  refine (l1Below_any V g C.D 5).mono ?_
  rintro e w1 ⟨n, rfl, _, hn, _, D1, g1⟩
  have hn := hn (by omega)
  have K := K.cur0 C.zg g1
  have C := C.next D1 g1
  obtain ⟨N, rfl⟩ := Int.eq_ofNat_of_zero_le hn.1
  have hN : N ≤ 4 := by omega
  clear g1 D1 hn
  have hp5 : (2 : Nat) ^ N ≤ 16 := Nat.pow_le_pow_right (n := 2) (by decide) hN
  have hpi := Lib.hid (show ((2 ^ N : Nat) : Int) = (2 : Int) ^ N by simp)
  have tp := two_pow N 4 hN
  have hp1 : (2 : Int) ^ N ≤ 16 := by rw [← hpi.out]; omega
  have hp2 := tp.2
  have hp3 := Nat.two_pow_pos N
  have hsh : IntKind.i64.wrap ((2 : Int) ^ N) = (2 : Int) ^ N := by rw [IntKind.wrap_i64]; omega
  clear tp
  have yK := K.lt
  go_wp2_with fail
  refine calls_named ?_
  intro V1 hV1
  have o0 : OwnI 3 (w.heap.size + 1) V1 (.slice (some ⟨w1.heap.size, 0, none⟩) 0 0) [] := by rw [hV1]; exact OwnI.lit0 w1 yK
  have C := C.alloc (.cells #[] 3)
  have K := K.alloc (.cells #[] 3)
  rw [← hV1] at C K
  clear hV1
  refine (l1Below_any V1 g C.D 5).mono ?_
  rintro e w2 ⟨m, rfl, _, hm, _, D2, g2⟩
  have hm := hm (by omega)
  have K := K.cur0 C.zg g2
  have o0 := o0.cur0 (Nat.lt_succ_of_lt C.zg) g2
  have C := C.next D2 g2
  clear D2 g2
  by_cases hm0 : m = 0
  · subst hm0
    go_wp2_with fail
    go_loopw [6, 7] (fun v i wr => ∃ (s : Nat) (ad : Option Addr) (nn cp : Nat) (L : List Int), s ≤ 2 ^ N ∧ v = .slice ad nn cp ∧ i = .int .i64 s ∧ L.length = s ∧ (∀ x ∈ L, -1 ≤ x ∧ x ≤ 5) ∧ OwnI 3 (w.heap.size + 1) wr (.slice ad nn cp) L ∧ Cur w wr g ∧ Blk wr w.heap.size 26 #[.int .i64 0, .slice none 0 0]) (fun _ i _ => 2 ^ N - (intOf i).toNat)
    case atStart => exact ⟨0, _, _, _, [], Nat.zero_le _, rfl, rfl, rfl, by simp, o0, C, K⟩
    case round =>
      obtain ⟨s, ad, nn, cp, L, hs, rfl, rfl, hLs, hL, o, C, K⟩ := hrel
      clear o0
      have HL := Lib.hid (And.intro hLs hL)
      have hL32 : L.length ≤ 32 := by omega
      clear hLs hL
      by_cases hlt : s < 2 ^ N
      · have hlt2 : (s : Int) < (2 : Int) ^ N := by rw [← hpi.out]; exact_mod_cast hlt
        go_wp2_with fail
        refine (l1Below_any wr g C.D 6).mono ?_
        rintro e w6 ⟨x, rfl, _, hx, _, D6, g6⟩
        have hx := hx (by omega)
        have hx0 := hx.1
        have hx1 := hx.2
        have K := K.cur0 C.zg g6
        have o := o.cur0 (Nat.lt_succ_of_lt C.zg) g6
        have C := C.next D6 g6
        have y6 := K.lt
        have HC := Lib.hid C
        have HK := Lib.hid K
        have HRA := Lib.hid o.lt
        clear C K D6 g6 hx
        go_wp2_with (at_builtin; refine wpList_appendN1 rfl _ _ _ rfl 3 Try.underlying24 intElem (w.heap.size + 1) (.slice ad nn cp) L (x - 1) _ rfl rfl (cell_new _ _ _ _ _ rfl) (o.alloc _) ⟨by omega, by omega⟩ (by omega) (by simp; omega) ?_; intro v7 w7 o7 g7 h7; obtain ⟨p7, i7, q7, rfl⟩ := o7.shape3)
        have C7 := (HC.out.alloc (.cells #[.int .i64 (x - 1)] 3)).row g7 (fun q hq => by have := (HRA.out q hq).1; omega)
        have K7 := (HK.out.alloc (.cells #[.int .i64 (x - 1)] 3)).grow g7 (fun e => by have := (HRA.out _ e).1; omega)
        go_roundw
        case rel =>
          refine ⟨s + 1, p7, i7, q7, L ++ [x - 1], by omega, rfl, by go_num, by simp; exact HL.out.1, fun z hz => ?_, o7, C7, K7⟩
          rcases List.mem_append.1 hz with hz | hz
          · exact HL.out.2 z hz
          · rw [List.mem_singleton.1 hz]; omega
        case measure => simp [intOf]; omega
      · have hsN : s = 2 ^ N := by omega
        have hlt2 : ¬ (s : Int) < (2 : Int) ^ N := by rw [← hpi.out]; exact_mod_cast hlt
        have HMF := Lib.hid (And.intro (HL.out.1.trans hsN) (fun x hx => by have := HL.out.2 x hx; exact (by omega : -1300 ≤ x ∧ x ≤ 1000)))
        clear hsN hs
        have G := K.cell
        have F := K.frozen
        go_wp2
        refine post_named ?_
        intro Wf hWf
        obtain ⟨KF, CF, oF⟩ := fun_tail C K o (Nat.lt_succ_self _) hWf
        have GF := KF.cell
        clear hWf
        exact bodyPost_ret (v := .agg #[.int .i64 N, .slice ad nn cp]) (by simp [results, Try.results77, go_sem, GF]) rfl (by first | exact ⟨N, _, _, cp, L, rfl, by omega, oF, HMF.out.1, HMF.out.2, CF.D, CF.gr⟩ | exact ⟨N, _, _, cp, rfl, by omega, L, oF, HMF.out.1, HMF.out.2, CF.D, CF.gr⟩)
  by_cases hm1 : m = 1
  · subst hm1
    have t0 : ((1 : Int) == 0) = false := by simp
    have hw1 : IntKind.i64.wrap ((N : Int) + 1) = (N : Int) + 1 := by rw [IntKind.wrap_i64]; omega
    clear hm hm0
    go_wp2_with fail
    refine (l1Below_any w2 g C.D ((N : Int) + 1)).mono ?_
    rintro e w3 ⟨top, rfl, _, hx, _, D3, g3⟩
    have hx := hx (by omega)
    have htop0 := hx.1
    have htop1 := hx.2
    have K := K.cur0 C.zg g3
    have o0 := o0.cur0 (Nat.lt_succ_of_lt C.zg) g3
    have C := C.next D3 g3
    clear D3 g3 hx
    go_wp2_with fail
    go_loopw [6, 9] (fun v i wr => ∃ (s : Nat) (ad : Option Addr) (nn cp : Nat) (L : List Int), s ≤ 2 ^ N ∧ v = .slice ad nn cp ∧ i = .int .i64 s ∧ L.length = s ∧ (∀ x ∈ L, -1000 ≤ x ∧ x ≤ 1000) ∧ OwnI 3 (w.heap.size + 1) wr (.slice ad nn cp) L ∧ Cur w wr g ∧ Blk wr w.heap.size 26 #[.int .i64 0, .slice none 0 0]) (fun _ i _ => 2 ^ N - (intOf i).toNat)
    case atStart => exact ⟨0, _, _, _, [], Nat.zero_le _, rfl, rfl, rfl, by simp, o0, C, K⟩
    case round =>
      obtain ⟨s, ad, nn, cp, L, hs, rfl, rfl, hLs, hL, o, C, K⟩ := hrel
      clear o0
      by_cases hlt : s < 2 ^ N
      · have hlt2 : (s : Int) < (2 : Int) ^ N := by rw [← hpi.out]; exact_mod_cast hlt
        have HL := Lib.hid (And.intro hLs hL)
        have hL32 : L.length ≤ 32 := by omega
        clear hLs hL
        have hpop := pop_le s (by omega)
        have HSZ := Lib.hid (fun W => l2Size_any s W (by omega))
        have yK3 := K.lt
        have HC := Lib.hid C
        have HO := Lib.hid o
        have HK := Lib.hid K
        have HRA := Lib.hid o.lt
        clear C K
        go_wp2_with fail
        refine (HSZ.out _).mono ?_
        rintro e w6 ⟨rfl, rfl⟩
        rcases (show (pop s : Int) < top ∨ top ≤ (pop s : Int) by omega) with hmin | hmin
        · have hmin2 : ¬ top ≤ (pop s : Int) := by omega
          go_wp2_with (at_builtin; refine wpList_appendN1 rfl _ _ _ rfl 3 Try.underlying24 intElem (w.heap.size + 1) (.slice ad nn cp) L (pop s : Int) _ rfl rfl (cell_new _ _ _ _ _ rfl) (HO.out.alloc _) ⟨by omega, by omega⟩ (by omega) (by simp; omega) ?_; intro v7 w7 o7 g7 h7; obtain ⟨p7, i7, q7, rfl⟩ := o7.shape3)
          have C7 := (HC.out.alloc (.cells #[.int .i64 (pop s : Int)] 3)).row g7 (fun q hq => by have := (HRA.out q hq).1; omega)
          have K7 := (HK.out.alloc (.cells #[.int .i64 (pop s : Int)] 3)).grow g7 (fun e => by have := (HRA.out _ e).1; omega)
          go_roundw
          case rel =>
            refine ⟨s + 1, p7, i7, q7, L ++ [(pop s : Int)], by omega, rfl, by go_num, by simp; exact HL.out.1, fun z hz => ?_, o7, C7, K7⟩
            rcases List.mem_append.1 hz with hz | hz
            · exact HL.out.2 z hz
            · rw [List.mem_singleton.1 hz]; omega
          case measure => simp [intOf]; omega
        · have hmin2 : ¬ (pop s : Int) < top := by omega
          go_wp2_with (at_builtin; refine wpList_appendN1 rfl _ _ _ rfl 3 Try.underlying24 intElem (w.heap.size + 1) (.slice ad nn cp) L top _ rfl rfl (cell_new _ _ _ _ _ rfl) (HO.out.alloc _) ⟨by omega, by omega⟩ (by omega) (by simp; omega) ?_; intro v7 w7 o7 g7 h7; obtain ⟨p7, i7, q7, rfl⟩ := o7.shape3)
          have C7 := (HC.out.alloc (.cells #[.int .i64 top] 3)).row g7 (fun q hq => by have := (HRA.out q hq).1; omega)
          have K7 := (HK.out.alloc (.cells #[.int .i64 top] 3)).grow g7 (fun e => by have := (HRA.out _ e).1; omega)
          go_roundw
          case rel =>
            refine ⟨s + 1, p7, i7, q7, L ++ [top], by omega, rfl, by go_num, by simp; exact HL.out.1, fun z hz => ?_, o7, C7, K7⟩
            rcases List.mem_append.1 hz with hz | hz
            · exact HL.out.2 z hz
            · rw [List.mem_singleton.1 hz]; omega
          case measure => simp [intOf]; omega
      · have hsN : s = 2 ^ N := by omega
        have hlt2 : ¬ (s : Int) < (2 : Int) ^ N := by rw [← hpi.out]; exact_mod_cast hlt
        have hLN : L.length = 2 ^ N := hLs.trans hsN
        have hLb := hL
        clear hLs hL hsN hs hlt
        have hL32 : L.length ≤ 32 := by omega
        have hnn : nn = L.length := o.ints.capLe.1
        obtain ⟨vb, hvb⟩ : ∃ vb, ad = some ⟨vb, 0, none⟩ := by
          rcases o.cases with ⟨_, h⟩ | ⟨b, _, h, _⟩
          · rw [h] at hLN; simp at hLN; omega
          · injection h with h1 _ _
            exact ⟨b, h1⟩
        subst hvb
        subst hnn
        have HL := Lib.hid (And.intro hLN hLb)
        clear hLN hLb
        go_wp2_with fail
        refine (l1Once_any _ g C.D 2).mono ?_
        rintro e w5 ⟨bb, rfl, D5, g5⟩
        have K := K.cur0 C.zg g5
        have o := o.cur0 (Nat.lt_succ_of_lt C.zg) g5
        have C := C.next D5 g5
        clear D5 g5
        cases bb with
        | false =>
          have HL := Lib.hid (And.intro HL.out.1 (fun x hx => by have := HL.out.2 x hx; exact (by omega : -1300 ≤ x ∧ x ≤ 1000)))
          have ad := (some ⟨vb, 0, none⟩ : Option Addr)
          have G := K.cell
          have F := K.frozen
          go_wp2
          refine post_named ?_
          intro Wf hWf
          obtain ⟨KF, CF, oF⟩ := fun_tail C K o (Nat.lt_succ_self _) hWf
          have GF := KF.cell
          clear hWf
          exact bodyPost_ret (v := .agg #[.int .i64 N, .slice (some ⟨vb, 0, none⟩) L.length cp]) (by simp [results, Try.results77, go_sem, GF]) rfl ⟨N, _, _, cp, L, rfl, by omega, oF, HL.out.1, HL.out.2, CF.D, CF.gr⟩
        | true =>
          have oA := OwnI.lit0 (E := 3) (B := w5.heap.size) w5 (Nat.le_refl _)
          have rO : vb < w5.heap.size := (o.lt vb rfl).2
          have rO1 : w.heap.size < vb := (o.lt vb rfl).1
          have HC := Lib.hid C
          have HO := Lib.hid o
          have HK := Lib.hid K
          clear C o K
          go_wp2_with fail
          go_loopw [10, 11] (fun a i wr => ∃ (k : Nat) (a1 : Option Addr) (n1 c1 : Nat) (A : List Int), k ≤ N ∧ i = .int .i64 k ∧ a = .slice a1 n1 c1 ∧ A.length = k ∧ (∀ x ∈ A, 0 ≤ x ∧ x ≤ 3) ∧ OwnI 3 w5.heap.size wr (.slice a1 n1 c1) A ∧ Cur w wr g ∧ OwnI 3 (w.heap.size + 1) wr (.slice (some ⟨vb, 0, none⟩) L.length cp) L ∧ Blk wr w.heap.size 26 #[.int .i64 0, .slice none 0 0] ∧ w5.heap.size ≤ wr.heap.size) (fun _ i _ => N - (intOf i).toNat)
          case atStart => exact ⟨0, _, _, _, [], Nat.zero_le _, rfl, rfl, rfl, by simp, oA, HC.out.alloc _, HO.out.alloc _, HK.out.alloc _, by simp⟩
          case round =>
            obtain ⟨k, a1, n1, c1, A, hk, rfl, rfl, hAk, hA, oA', C, o, K, z5⟩ := hrel
            clear oA
            by_cases hlt : k < N
            · have hlt2 : (k : Int) < (N : Int) := by omega
              have HA := Lib.hid (And.intro hAk hA)
              have hA5 : A.length ≤ 5 := by omega
              clear hAk hA
              go_wp2_with fail
              refine (l1Below_any wr g C.D 4).mono ?_
              rintro e w6 ⟨x, rfl, _, hx, _, D6, g6⟩
              have hx := hx (by omega)
              have hx0 := hx.1
              have hx1 := hx.2
              have K := K.cur0 C.zg g6
              have o := o.cur0 (Nat.lt_succ_of_lt C.zg) g6
              have oA := oA'.cur0 (by have := C.zg; omega) g6
              have C := C.next D6 g6
              have y6 := g6.size
              have rA := oA.lt
              clear D6 g6 hx oA'
              have HC := Lib.hid C
              have HO := Lib.hid o
              have HK := Lib.hid K
              have HRA := Lib.hid rA
              clear C o K rA
              go_wp2_with (at_builtin; refine wpList_appendN1 rfl _ _ _ rfl 3 Try.underlying24 intElem w5.heap.size (.slice a1 n1 c1) A x _ rfl rfl (cell_new _ _ _ _ _ rfl) (oA.alloc _) ⟨by omega, by omega⟩ (by omega) (by simp; omega) ?_; intro v7 w7 o7 g7 h7; obtain ⟨p7, i7, q7, rfl⟩ := o7.shape3)
              have C7 := (HC.out.alloc (.cells #[.int .i64 x] 3)).row g7 (fun q hq => by have := (HRA.out q hq).1; omega)
              have O7 := (HO.out.alloc (.cells #[.int .i64 x] 3)).grow g7 (fun q hq e => by have := (HRA.out q hq).1; have e2 : vb = q := Option.some.inj e; omega)
              have K7 := (HK.out.alloc (.cells #[.int .i64 x] 3)).grow g7 (fun e => by have := (HRA.out _ e).1; omega)
              have z7 := g7.size
              simp at z7
              go_roundw
              case rel =>
                refine ⟨k + 1, p7, i7, q7, A ++ [x], by omega, by go_num, rfl, by simp; exact HA.out.1, fun z hz => ?_, o7, C7, O7, K7, by omega⟩
                rcases List.mem_append.1 hz with hz | hz
                · exact HA.out.2 z hz
                · rw [List.mem_singleton.1 hz]; omega
              case measure => simp [intOf]; omega
            · have hkN : k = N := by omega
              have hkn2 : ¬ (k : Int) < (N : Int) := by omega
              have hn1 : n1 = A.length := oA'.ints.capLe.1
              subst hn1
              have HA := Lib.hid (And.intro (hAk.trans hkN) hA)
              clear hAk hA hkN
              obtain ⟨WB, hWB⟩ : ∃ WB : World, WB = wr := ⟨_, rfl⟩
              subst hWB
              have rA := oA'.lt
              have hLp : L.length = 2 ^ N := HL.out.1
              have HRA := Lib.hid rA
              have HLP := Lib.hid hLp
              have hlb := HL.out.2
              have HLB := Lib.hid (fun x hx => by have := hlb x hx; exact (by omega : -1000 - 12 * ((0 : Nat) : Int) ≤ x ∧ x ≤ 1000))
              clear rA hLp hlb
              go_wp2_with fail
              go_loopw [12] (fun i wr => ∃ (s : Nat) (M : List Int), s ≤ 2 ^ N ∧ i = .int .i64 s ∧ M.length = L.length ∧ (∀ x ∈ M, -1000 - 12 * (s : Int) ≤ x ∧ x ≤ 1000) ∧ OwnI 3 (w.heap.size + 1) wr (.slice (some ⟨vb, 0, none⟩) L.length cp) M ∧ OwnI 3 w5.heap.size wr (.slice a1 A.length c1) A ∧ Cur w wr g ∧ Blk wr w.heap.size 26 #[.int .i64 0, .slice none 0 0]) (fun i _ => 2 ^ N - (intOf i).toNat)
              case atStart => exact ⟨0, L, Nat.zero_le _, rfl, rfl, HLB.out, o, oA', C, K⟩
              case round =>
                obtain ⟨s, M, hs, rfl, hML, hMb, oM, oA2, C2, K2⟩ := hrel
                clear o oA' C K
                have HM := Lib.hid (And.intro hML hMb)
                clear hML hMb
                by_cases hlt : s < 2 ^ N
                · have hlt2 : (s : Int) < (2 : Int) ^ N := by rw [← hpi.out]; exact_mod_cast hlt
                  go_wp2_with fail
                  go_loopw [13] (fun i wr => ∃ (k : Nat) (M : List Int), k ≤ N ∧ i = .int .i64 k ∧ M.length = L.length ∧ (∀ x ∈ M, -1000 - 12 * (s : Int) - 3 * (k : Int) ≤ x ∧ x ≤ 1000) ∧ OwnI 3 (w.heap.size + 1) wr (.slice (some ⟨vb, 0, none⟩) L.length cp) M ∧ OwnI 3 w5.heap.size wr (.slice a1 A.length c1) A ∧ Cur w wr g ∧ Blk wr w.heap.size 26 #[.int .i64 0, .slice none 0 0]) (fun i _ => N - (intOf i).toNat)
                  case atStart => exact ⟨0, M, Nat.zero_le _, rfl, HM.out.1, fun x hx => by have := HM.out.2 x hx; omega, oM, oA2, C2, K2⟩
                  case round =>
                    obtain ⟨k, M', hk, rfl, hML, hMb, oM', oA3, C3, K3⟩ := hrel
                    clear oM oA2 C2 K2
                    by_cases hkl : k < N
                    · have hkl2 : (k : Int) < (N : Int) := by omega
                      have hkA : k < A.length := by rw [HA.out.1]; exact hkl
                      have hsM : s < M'.length := by rw [hML, HLP.out]; exact hlt
                      have hbA := HA.out.2 _ (List.getElem_mem hkA)
                      have hbM := hMb _ (List.getElem_mem hsM)
                      obtain ⟨xa, ba, offa, ya, hva, _, ixa, ca, bba⟩ := oA3.ints.view Try.prog 24 3 Try.underlying24 intElem
                      injection hva with e1 _ e3
                      subst e1 e3
                      have cka := ca k hkA
                      have ia := fun W => ixa W k hkA
                      have cks := oM'.cellAt hML.symm s hsM
                      have hfr := oM'.frozenAt hML.symm s
                      obtain ⟨y, hy⟩ : ∃ y, y = A[k] := ⟨_, rfl⟩
                      obtain ⟨z, hz⟩ : ∃ y, y = M'[s] := ⟨_, rfl⟩
                      rw [← hy] at cka hbA
                      rw [← hz] at cks hbM
                      have hy0 := hbA.1
                      have hy1 := hbA.2
                      have hz0 := hbM.1
                      have hz1 := hbM.2
                      have ow3 := fun q => ((oM'.drewN q).stored hML.symm s (z - y) ⟨by omega, by omega⟩)
                      have hb3 : ∀ x ∈ M'.set s (z - y), -1000 - 12 * (s : Int) - 3 * ((k + 1 : Nat) : Int) ≤ x ∧ x ≤ 1000 := fun x hx => by
                        have := mem_set_bd (a := -1000 - 12 * (s : Int) - 3 * ((k + 1 : Nat) : Int)) (b := 1000) (fun x hx => by have := hMb x hx; omega) (y := z - y) (by omega) x hx
                        exact this
                      have hb4 : ∀ x ∈ M', -1000 - 12 * (s : Int) - 3 * ((k + 1 : Nat) : Int) ≤ x ∧ x ≤ 1000 := fun x hx => by have := hMb x hx; omega
                      have hml2 : (M'.set s (z - y)).length = L.length := by rw [List.length_set]; exact hML
                      have HOW := Lib.hid ow3
                      have HB := Lib.hid (And.intro hb3 (And.intro hb4 (And.intro hml2 hML)))
                      have HC := Lib.hid C3
                      have HK := Lib.hid K3
                      have HOA := Lib.hid oA3
                      have HOM := Lib.hid oM'
                      have hsL : (s : Int) < (L.length : Int) := by rw [HLP.out]; exact_mod_cast hlt
                      clear hML hMb hbA hbM hy hz ca bba ixa ow3 hb3 hb4 hml2 hkA hsM C3 K3 oA3 oM'
                      have hbit := bit_is (s : Int) k (by omega) (by omega)
                      obtain ⟨t, ht⟩ : ∃ t, (ibit (s : Int) k == 1) = t := ⟨_, rfl⟩
                      cases t with
                      | false =>
                        go_wp2_with fail
                        go_roundw
                        case rel => exact ⟨k + 1, M', by omega, by go_num, HB.out.2.2.2, HB.out.2.1, HOM.out, HOA.out, HC.out, HK.out⟩
                        case measure => simp [intOf]; omega
                      | true =>
                        go_wp2_with fail
                        go_region
                        all_goals go_wp2
                        go_roundw
                        case rel => exact ⟨k + 1, M'.set s (z - y), by omega, by go_num, HB.out.2.2.1, HB.out.1, (HOW.out _).1, (HOA.out.drewN _).grow (HOW.out _).2 (fun q hq e => by have := (HRA.out q e).1; have e2 : vb = q := Option.some.inj hq; omega), (HC.out.drewN _).row (HOW.out _).2 (fun b e => by have e2 : vb = b := Option.some.inj e; omega), (HK.out.drewN _).grow (HOW.out _).2 (fun e => by have e2 : vb = w.heap.size := Option.some.inj e; omega)⟩
                        case measure => simp [intOf]; omega
                    · have hkN : k = N := by omega
                      have hkl2 : ¬ (k : Int) < (N : Int) := by omega
                      have hb5 : ∀ x ∈ M', -1000 - 12 * ((s + 1 : Nat) : Int) ≤ x ∧ x ≤ 1000 := fun x hx => by have := hMb x hx; omega
                      have HB := Lib.hid (And.intro hML hb5)
                      clear hML hMb hb5 hkN
                      go_wp2_with fail
                      go_roundw
                      case rel => exact ⟨s + 1, M', by omega, by go_num, HB.out.1, HB.out.2, oM', oA3, C3, K3⟩
                      case measure => simp [intOf]; omega
                · have hsN : s = 2 ^ N := by omega
                  have hlt2 : ¬ (s : Int) < (2 : Int) ^ N := by rw [← hpi.out]; exact_mod_cast hlt
                  have HMF := Lib.hid (And.intro (HM.out.1.trans HLP.out) (fun x hx => by have := HM.out.2 x hx; exact (by omega : -1300 ≤ x ∧ x ≤ 1000)))
                  clear hsN hs
                  have G := K2.cell
                  have F := K2.frozen
                  go_wp2
                  refine post_named ?_
                  intro Wf hWf
                  obtain ⟨KF, CF, oF⟩ := fun_tail C2 K2 oM (Nat.lt_succ_self _) hWf
                  have GF := KF.cell
                  clear hWf
                  exact bodyPost_ret (v := .agg #[.int .i64 N, .slice (some ⟨vb, 0, none⟩) L.length cp]) (by simp [results, Try.results77, go_sem, GF]) rfl (by first | exact ⟨N, _, _, cp, M, rfl, by omega, oF, HMF.out.1, HMF.out.2, CF.D, CF.gr⟩ | exact ⟨N, _, _, cp, rfl, by omega, M, oF, HMF.out.1, HMF.out.2, CF.D, CF.gr⟩)
  have t0 : (m == 0) = false := by simp [hm0]
  have t1 : (m == 1) = false := by simp [hm1]
  clear hm0 hm1 hm
  go_wp2_with fail
  refine (l2Cover_any w2 g C.D N (by omega)).mono ?_
  rintro e w3 ⟨ad, cp, L, rfl, o3, hLN, hLb, D3, g3⟩
  obtain ⟨nn, hnnn⟩ : ∃ nn, nn = 2 ^ N := ⟨_, rfl⟩
  rw [← hnnn] at o3 ⊢
  clear hnnn
  have o := o3.mono (B' := w.heap.size + 1) K.lt
  have K := K.cur0 C.zg g3
  have C := C.next D3 g3
  clear D3 g3 o3 o0
  have hL32 : L.length ≤ 32 := by omega
  have hnn : nn = L.length := o.ints.capLe.1
  obtain ⟨vb, hvb⟩ : ∃ vb, ad = some ⟨vb, 0, none⟩ := by
    rcases o.cases with ⟨_, h⟩ | ⟨b, _, h, _⟩
    · rw [h] at hLN; simp at hLN; omega
    · injection h with h1 _ _
      exact ⟨b, h1⟩
  subst hvb
  subst hnn
  have HL := Lib.hid (And.intro hLN hLb)
  clear hLN hLb
  go_wp2_with fail
  refine (l1Once_any _ g C.D 2).mono ?_
  rintro e w5 ⟨bb, rfl, D5, g5⟩
  have K := K.cur0 C.zg g5
  have o := o.cur0 (Nat.lt_succ_of_lt C.zg) g5
  have C := C.next D5 g5
  clear D5 g5
  cases bb with
  | false =>
    have HL := Lib.hid (And.intro HL.out.1 (fun x hx => by have := HL.out.2 x hx; exact (by omega : -1300 ≤ x ∧ x ≤ 1000)))
    have ad := (some ⟨vb, 0, none⟩ : Option Addr)
    have G := K.cell
    have F := K.frozen
    go_wp2
    refine post_named ?_
    intro Wf hWf
    obtain ⟨KF, CF, oF⟩ := fun_tail C K o (Nat.lt_succ_self _) hWf
    have GF := KF.cell
    clear hWf
    exact bodyPost_ret (v := .agg #[.int .i64 N, .slice (some ⟨vb, 0, none⟩) L.length cp]) (by simp [results, Try.results77, go_sem, GF]) rfl ⟨N, _, _, cp, L, rfl, by omega, oF, HL.out.1, HL.out.2, CF.D, CF.gr⟩
  | true =>
    have oA := OwnI.lit0 (E := 3) (B := w5.heap.size) w5 (Nat.le_refl _)
    have rO : vb < w5.heap.size := (o.lt vb rfl).2
    have rO1 : w.heap.size < vb := (o.lt vb rfl).1
    have HC := Lib.hid C
    have HO := Lib.hid o
    have HK := Lib.hid K
    clear C o K
    go_wp2_with fail
    go_loopw [10, 11] (fun a i wr => ∃ (k : Nat) (a1 : Option Addr) (n1 c1 : Nat) (A : List Int), k ≤ N ∧ i = .int .i64 k ∧ a = .slice a1 n1 c1 ∧ A.length = k ∧ (∀ x ∈ A, 0 ≤ x ∧ x ≤ 3) ∧ OwnI 3 w5.heap.size wr (.slice a1 n1 c1) A ∧ Cur w wr g ∧ OwnI 3 (w.heap.size + 1) wr (.slice (some ⟨vb, 0, none⟩) L.length cp) L ∧ Blk wr w.heap.size 26 #[.int .i64 0, .slice none 0 0] ∧ w5.heap.size ≤ wr.heap.size) (fun _ i _ => N - (intOf i).toNat)
    case atStart => exact ⟨0, _, _, _, [], Nat.zero_le _, rfl, rfl, rfl, by simp, oA, HC.out.alloc _, HO.out.alloc _, HK.out.alloc _, by simp⟩
    case round =>
      obtain ⟨k, a1, n1, c1, A, hk, rfl, rfl, hAk, hA, oA', C, o, K, z5⟩ := hrel
      clear oA
      by_cases hlt : k < N
      · have hlt2 : (k : Int) < (N : Int) := by omega
        have HA := Lib.hid (And.intro hAk hA)
        have hA5 : A.length ≤ 5 := by omega
        clear hAk hA
        go_wp2_with fail
        refine (l1Below_any wr g C.D 4).mono ?_
        rintro e w6 ⟨x, rfl, _, hx, _, D6, g6⟩
        have hx := hx (by omega)
        have hx0 := hx.1
        have hx1 := hx.2
        have K := K.cur0 C.zg g6
        have o := o.cur0 (Nat.lt_succ_of_lt C.zg) g6
        have oA := oA'.cur0 (by have := C.zg; omega) g6
        have C := C.next D6 g6
        have y6 := g6.size
        have rA := oA.lt
        clear D6 g6 hx oA'
        have HC := Lib.hid C
        have HO := Lib.hid o
        have HK := Lib.hid K
        have HRA := Lib.hid rA
        clear C o K rA
        go_wp2_with (at_builtin; refine wpList_appendN1 rfl _ _ _ rfl 3 Try.underlying24 intElem w5.heap.size (.slice a1 n1 c1) A x _ rfl rfl (cell_new _ _ _ _ _ rfl) (oA.alloc _) ⟨by omega, by omega⟩ (by omega) (by simp; omega) ?_; intro v7 w7 o7 g7 h7; obtain ⟨p7, i7, q7, rfl⟩ := o7.shape3)
        have C7 := (HC.out.alloc (.cells #[.int .i64 x] 3)).row g7 (fun q hq => by have := (HRA.out q hq).1; omega)
        have O7 := (HO.out.alloc (.cells #[.int .i64 x] 3)).grow g7 (fun q hq e => by have := (HRA.out q hq).1; have e2 : vb = q := Option.some.inj e; omega)
        have K7 := (HK.out.alloc (.cells #[.int .i64 x] 3)).grow g7 (fun e => by have := (HRA.out _ e).1; omega)
        have z7 := g7.size
        simp at z7
        go_roundw
        case rel =>
          refine ⟨k + 1, p7, i7, q7, A ++ [x], by omega, by go_num, rfl, by simp; exact HA.out.1, fun z hz => ?_, o7, C7, O7, K7, by omega⟩
          rcases List.mem_append.1 hz with hz | hz
          · exact HA.out.2 z hz
          · rw [List.mem_singleton.1 hz]; omega
        case measure => simp [intOf]; omega
      · have hkN : k = N := by omega
        have hkn2 : ¬ (k : Int) < (N : Int) := by omega
        have hn1 : n1 = A.length := oA'.ints.capLe.1
        subst hn1
        have HA := Lib.hid (And.intro (hAk.trans hkN) hA)
        clear hAk hA hkN
        obtain ⟨WB, hWB⟩ : ∃ WB : World, WB = wr := ⟨_, rfl⟩
        subst hWB
        have rA := oA'.lt
        have hLp : L.length = 2 ^ N := HL.out.1
        have HRA := Lib.hid rA
        have HLP := Lib.hid hLp
        have hlb := HL.out.2
        have HLB := Lib.hid (fun x hx => by have := hlb x hx; exact (by omega : -1000 - 12 * ((0 : Nat) : Int) ≤ x ∧ x ≤ 1000))
        clear rA hLp hlb
        go_wp2_with fail
        go_loopw [12] (fun i wr => ∃ (s : Nat) (M : List Int), s ≤ 2 ^ N ∧ i = .int .i64 s ∧ M.length = L.length ∧ (∀ x ∈ M, -1000 - 12 * (s : Int) ≤ x ∧ x ≤ 1000) ∧ OwnI 3 (w.heap.size + 1) wr (.slice (some ⟨vb, 0, none⟩) L.length cp) M ∧ OwnI 3 w5.heap.size wr (.slice a1 A.length c1) A ∧ Cur w wr g ∧ Blk wr w.heap.size 26 #[.int .i64 0, .slice none 0 0]) (fun i _ => 2 ^ N - (intOf i).toNat)
        case atStart => exact ⟨0, L, Nat.zero_le _, rfl, rfl, HLB.out, o, oA', C, K⟩
        case round =>
          obtain ⟨s, M, hs, rfl, hML, hMb, oM, oA2, C2, K2⟩ := hrel
          clear o oA' C K
          have HM := Lib.hid (And.intro hML hMb)
          clear hML hMb
          by_cases hlt : s < 2 ^ N
          · have hlt2 : (s : Int) < (2 : Int) ^ N := by rw [← hpi.out]; exact_mod_cast hlt
            go_wp2_with fail
            go_loopw [13] (fun i wr => ∃ (k : Nat) (M : List Int), k ≤ N ∧ i = .int .i64 k ∧ M.length = L.length ∧ (∀ x ∈ M, -1000 - 12 * (s : Int) - 3 * (k : Int) ≤ x ∧ x ≤ 1000) ∧ OwnI 3 (w.heap.size + 1) wr (.slice (some ⟨vb, 0, none⟩) L.length cp) M ∧ OwnI 3 w5.heap.size wr (.slice a1 A.length c1) A ∧ Cur w wr g ∧ Blk wr w.heap.size 26 #[.int .i64 0, .slice none 0 0]) (fun i _ => N - (intOf i).toNat)
            case atStart => exact ⟨0, M, Nat.zero_le _, rfl, HM.out.1, fun x hx => by have := HM.out.2 x hx; omega, oM, oA2, C2, K2⟩
            case round =>
              obtain ⟨k, M', hk, rfl, hML, hMb, oM', oA3, C3, K3⟩ := hrel
              clear oM oA2 C2 K2
              by_cases hkl : k < N
              · have hkl2 : (k : Int) < (N : Int) := by omega
                have hkA : k < A.length := by rw [HA.out.1]; exact hkl
                have hsM : s < M'.length := by rw [hML, HLP.out]; exact hlt
                have hbA := HA.out.2 _ (List.getElem_mem hkA)
                have hbM := hMb _ (List.getElem_mem hsM)
                obtain ⟨xa, ba, offa, ya, hva, _, ixa, ca, bba⟩ := oA3.ints.view Try.prog 24 3 Try.underlying24 intElem
                injection hva with e1 _ e3
                subst e1 e3
                have cka := ca k hkA
                have ia := fun W => ixa W k hkA
                have cks := oM'.cellAt hML.symm s hsM
                have hfr := oM'.frozenAt hML.symm s
                obtain ⟨y, hy⟩ : ∃ y, y = A[k] := ⟨_, rfl⟩
                obtain ⟨z, hz⟩ : ∃ y, y = M'[s] := ⟨_, rfl⟩
                rw [← hy] at cka hbA
                rw [← hz] at cks hbM
                have hy0 := hbA.1
                have hy1 := hbA.2
                have hz0 := hbM.1
                have hz1 := hbM.2
                have ow3 := fun q => ((oM'.drewN q).stored hML.symm s (z - y) ⟨by omega, by omega⟩)
                have hb3 : ∀ x ∈ M'.set s (z - y), -1000 - 12 * (s : Int) - 3 * ((k + 1 : Nat) : Int) ≤ x ∧ x ≤ 1000 := fun x hx => by
                  have := mem_set_bd (a := -1000 - 12 * (s : Int) - 3 * ((k + 1 : Nat) : Int)) (b := 1000) (fun x hx => by have := hMb x hx; omega) (y := z - y) (by omega) x hx
                  exact this
                have hb4 : ∀ x ∈ M', -1000 - 12 * (s : Int) - 3 * ((k + 1 : Nat) : Int) ≤ x ∧ x ≤ 1000 := fun x hx => by have := hMb x hx; omega
                have hml2 : (M'.set s (z - y)).length = L.length := by rw [List.length_set]; exact hML
                have HOW := Lib.hid ow3
                have HB := Lib.hid (And.intro hb3 (And.intro hb4 (And.intro hml2 hML)))
                have HC := Lib.hid C3
                have HK := Lib.hid K3
                have HOA := Lib.hid oA3
                have HOM := Lib.hid oM'
                have hsL : (s : Int) < (L.length : Int) := by rw [HLP.out]; exact_mod_cast hlt
                clear hML hMb hbA hbM hy hz ca bba ixa ow3 hb3 hb4 hml2 hkA hsM C3 K3 oA3 oM'
                have hbit := bit_is (s : Int) k (by omega) (by omega)
                obtain ⟨t, ht⟩ : ∃ t, (ibit (s : Int) k == 1) = t := ⟨_, rfl⟩
                cases t with
                | false =>
                  go_wp2_with fail
                  go_roundw
                  case rel => exact ⟨k + 1, M', by omega, by go_num, HB.out.2.2.2, HB.out.2.1, HOM.out, HOA.out, HC.out, HK.out⟩
                  case measure => simp [intOf]; omega
                | true =>
                  go_wp2_with fail
                  go_region
                  all_goals go_wp2
                  go_roundw
                  case rel => exact ⟨k + 1, M'.set s (z - y), by omega, by go_num, HB.out.2.2.1, HB.out.1, (HOW.out _).1, (HOA.out.drewN _).grow (HOW.out _).2 (fun q hq e => by have := (HRA.out q e).1; have e2 : vb = q := Option.some.inj hq; omega), (HC.out.drewN _).row (HOW.out _).2 (fun b e => by have e2 : vb = b := Option.some.inj e; omega), (HK.out.drewN _).grow (HOW.out _).2 (fun e => by have e2 : vb = w.heap.size := Option.some.inj e; omega)⟩
                  case measure => simp [intOf]; omega
              · have hkN : k = N := by omega
                have hkl2 : ¬ (k : Int) < (N : Int) := by omega
                have hb5 : ∀ x ∈ M', -1000 - 12 * ((s + 1 : Nat) : Int) ≤ x ∧ x ≤ 1000 := fun x hx => by have := hMb x hx; omega
                have HB := Lib.hid (And.intro hML hb5)
                clear hML hMb hb5 hkN
                go_wp2_with fail
                go_roundw
                case rel => exact ⟨s + 1, M', by omega, by go_num, HB.out.1, HB.out.2, oM', oA3, C3, K3⟩
                case measure => simp [intOf]; omega
          · have hsN : s = 2 ^ N := by omega
            have hlt2 : ¬ (s : Int) < (2 : Int) ^ N := by rw [← hpi.out]; exact_mod_cast hlt
            have HMF := Lib.hid (And.intro (HM.out.1.trans HLP.out) (fun x hx => by have := HM.out.2 x hx; exact (by omega : -1300 ≤ x ∧ x ≤ 1000)))
            clear hsN hs
            have G := K2.cell
            have F := K2.frozen
            go_wp2
            refine post_named ?_
            intro Wf hWf
            obtain ⟨KF, CF, oF⟩ := fun_tail C2 K2 oM (Nat.lt_succ_self _) hWf
            have GF := KF.cell
            clear hWf
            exact bodyPost_ret (v := .agg #[.int .i64 N, .slice (some ⟨vb, 0, none⟩) L.length cp]) (by simp [results, Try.results77, go_sem, GF]) rfl (by first | exact ⟨N, _, _, cp, M, rfl, by omega, oF, HMF.out.1, HMF.out.2, CF.D, CF.gr⟩ | exact ⟨N, _, _, cp, rfl, by omega, M, oF, HMF.out.1, HMF.out.2, CF.D, CF.gr⟩)
end Go.Proofs.Ytgdkeaooipmgbaa
end
