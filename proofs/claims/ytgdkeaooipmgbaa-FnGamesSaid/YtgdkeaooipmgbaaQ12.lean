/- Draws: functions with a fault, perhaps. Draws: orders and vectors. -/
import Derived.Test.YtgdkeaooipmgbaaQ11
section
namespace Go.Proofs.Ytgdkeaooipmgbaa
open Go.RowKit Go.G5

set_option maxHeartbeats 4000000 in
set_option maxRecDepth 100000 in
theorem l2Any_any (w : World) (g : Nat) (D : Dr w g) :
    Calls Try.prog 67 #[.pointer (some ⟨g, 0, none⟩)] w fun e w' => ∃ (n : Int) (ad : Option Addr) (i cp : Nat) (l : List Int), e = .returned (.agg #[.int .i64 n, .slice ad i cp]) ∧ InR n ∧ OwnI 3 w.heap.size w' (.slice ad i cp) l ∧ l.length ≤ 16 ∧ Dr w' g ∧ w.grownBy w' (some g) := by
  go_enter Try.func67, Try.ntmps67
  go_wp2_with fail
  refine calls_named ?_
  intro V hV
  have C : Cur w V g := by rw [hV]; exact (Cur.start D).alloc _
  have K : Blk V w.heap.size 26 #[.int .i64 0, .slice none 0 0] := by rw [hV]; exact Blk.new _ _ _
  clear hV
  have yK := K.lt
  refine (l2Draw_any V g C.D).mono ?_
  rintro e w1 ⟨N, ad, nn, cp, L, rfl, hN, o, hLN, _, D1, g1⟩
  have hp5 : (2 : Nat) ^ N ≤ 16 := Nat.pow_le_pow_right (n := 2) (by decide) hN
  have hp3 := Nat.two_pow_pos N
  have o := o.mono (B' := w.heap.size + 1) yK
  have K := K.cur0 C.zg g1
  have C := C.next D1 g1
  clear D1 g1
  have hnn : nn = L.length := o.ints.capLe.1
  obtain ⟨vb, hvb⟩ : ∃ vb, ad = some ⟨vb, 0, none⟩ := by
    rcases o.cases with ⟨_, h⟩ | ⟨b, _, h, _⟩
    · rw [h] at hLN; simp at hLN; omega
    · injection h with h1 _ _
      exact ⟨b, h1⟩
  subst hvb
  subst hnn
  have hL16 : L.length ≤ 16 := by omega
  have hL0 : 0 < L.length := by omega
  clear hLN
  have yK := K.lt
  have yV : vb < w1.heap.size := (o.lt vb rfl).2
  have yV1 : w.heap.size < vb := (o.lt vb rfl).1
  go_wp2_with fail
  refine calls_named ?_
  intro V1 hV1
  have K3 : Blk V1 w1.heap.size 26 #[.int .i64 N, .slice (some ⟨vb, 0, none⟩) L.length cp] := by
    rw [hV1]
    first
      | exact Blk.new _ _ _
      | (have := ((Blk.new w1 26 #[.int .i64 0, .slice none 0 0]).set 0 (.int .i64 N)).set 1 (.slice (some ⟨vb, 0, none⟩) L.length cp); simpa using this)
  have g2 : w1.grownBy V1 (some w1.heap.size) := by
    rw [hV1]
    first
      | exact gr_below _ (bl1 _ _)
      | exact grow_set (grow_set (gr_below _ (bl1 _ _)) 0 _) 1 _
  have K := K.grow g2 (fun e => by have := Option.some.inj e; omega)
  have o := o.grow g2 (fun q hq e => by have := Option.some.inj hq; have e2 : vb = q := Option.some.inj e; omega)
  have C := C.row g2 (fun b e => by have := Option.some.inj e; omega)
  have yB : w1.heap.size < V1.heap.size := K3.lt
  clear hV1 g2
  refine (l1Below_any V1 g C.D 16).mono ?_
  rintro e w3 ⟨x, rfl, _, hx, _, D3, g3⟩
  have hx := hx (by omega)
  have zg := C.zg
  have K := K.cur0 C.zg g3
  have K3 := K3.cur0 (by omega) g3
  have o := o.cur0 (Nat.lt_succ_of_lt C.zg) g3
  have C := C.next D3 g3
  have y3 := K3.lt
  clear D3 g3
  by_cases hx0 : x = 0
  · subst hx0
    have hlit : ∀ (W : World), OwnI 3 W.heap.size (W.alloc (.cells #[.int .i64 (-1), .int .i64 6, .int .i64 5, .int .i64 0, .int .i64 9223372036854775807] 3)) (.slice (some ⟨W.heap.size, 0, none⟩) 5 5) [-1, 6, 5, 0, 9223372036854775807] := fun W => OwnI.lit5 W _ _ _ _ _ (by simp [InR])
    have C4 := C.alloc (.cells #[.int .i64 (-1), .int .i64 6, .int .i64 5, .int .i64 0, .int .i64 9223372036854775807] 3)
    have K4 := K.alloc (.cells #[.int .i64 (-1), .int .i64 6, .int .i64 5, .int .i64 0, .int .i64 9223372036854775807] 3)
    have K34 := K3.alloc (.cells #[.int .i64 (-1), .int .i64 6, .int .i64 5, .int .i64 0, .int .i64 9223372036854775807] 3)
    have o4 := o.alloc (.cells #[.int .i64 (-1), .int .i64 6, .int .i64 5, .int .i64 0, .int .i64 9223372036854775807] 3)
    clear hx
    go_wp2_with fail
    refine (l1PickInt_any _ g C4.D w3.heap.size (by have := C.size; omega) _ _ (hlit w3) (by decide)).mono ?_
    rintro e w5 ⟨y, rfl, hy, D5, g5⟩
    have K := K4.cur0 C.zg g5
    have K3 := K34.cur0 (by omega) g5
    have o := o4.cur0 (Nat.lt_succ_of_lt C.zg) g5
    have C := C4.next D5 g5
    have hyR : InR y := by
      have : ∀ z ∈ [(-1 : Int), 6, 5, 0, 9223372036854775807], InR z := by simp [InR]
      exact this y hy
    have G3 := K3.cell
    have F3 := K3.frozen
    have G := K.cell
    have F := K.frozen
    clear hy D5 g5 K4 K34 C4 hlit o4
    go_wp2
    refine post_named ?_
    intro Wf hWf
    obtain ⟨W6, hW6⟩ : ∃ W6, W6 = w5.setCell ⟨w1.heap.size, 0, none⟩ (.int .i64 y) := ⟨_, rfl⟩
    rw [← hW6] at hWf
    have g6 : w5.grownBy W6 (some w1.heap.size) := by rw [hW6]; exact grown_setCell _ _ _
    have K := K.grow g6 (fun e => by have := Option.some.inj e; omega)
    have o := o.grow g6 (fun q hq e => by have := Option.some.inj hq; have e2 : vb = q := Option.some.inj e; omega)
    have C := C.row g6 (fun b e => by have := Option.some.inj e; omega)
    obtain ⟨KF, CF, oF⟩ := fun_tail C K o (Nat.lt_succ_self _) hWf
    have GF := KF.cell
    clear hWf hW6 g6 G3 F3 G F
    exact bodyPost_ret (v := .agg #[.int .i64 y, .slice (some ⟨vb, 0, none⟩) L.length cp]) (by simp [results, Try.results67, go_sem, GF]) rfl (by first | exact ⟨y, _, _, cp, L, rfl, hyR, oF, hL16, CF.D, CF.gr⟩ | exact ⟨y, _, _, cp, rfl, hyR, L, oF, hL16, CF.D, CF.gr⟩)
  by_cases hx1 : x = 1
  · subst hx1
    have hlit : ∀ (W : World), OwnI 3 W.heap.size (W.alloc (.cells #[.int .i64 1, .int .i64 (-1), .int .i64 1001, .int .i64 (-9223372036854775808), .int .i64 1000] 3)) (.slice (some ⟨W.heap.size, 0, none⟩) 5 5) [1, -1, 1001, -9223372036854775808, 1000] := fun W => OwnI.lit5 W _ _ _ _ _ (by simp [InR])
    have t0 : ((1 : Int) == 0) = false := by simp
    clear hx hx0
    have hpick := l1PickInt_any (w3.drew.alloc (.cells #[.int .i64 1, .int .i64 (-1), .int .i64 1001, .int .i64 (-9223372036854775808), .int .i64 1000] 3)) g ((C.D.keep (Below.refl _ _).drew).keep (bl1 _ _)) w3.drew.heap.size (by show g < w3.heap.size; omega) _ _ (hlit w3.drew) (by decide)
    have HPK := Lib.hid hpick
    have C3d : Cur w (w3.drew.alloc (.cells #[.int .i64 1, .int .i64 (-1), .int .i64 1001, .int .i64 (-9223372036854775808), .int .i64 1000] 3)) g := (C.keep (Below.refl _ _).drew).keep (bl1 _ _)
    have K3d : Blk (w3.drew.alloc (.cells #[.int .i64 1, .int .i64 (-1), .int .i64 1001, .int .i64 (-9223372036854775808), .int .i64 1000] 3)) w1.heap.size 26 #[.int .i64 N, .slice (some ⟨vb, 0, none⟩) L.length cp] := Blk.alloc (w := w3.drew) K3 _
    have Kd : Blk (w3.drew.alloc (.cells #[.int .i64 1, .int .i64 (-1), .int .i64 1001, .int .i64 (-9223372036854775808), .int .i64 1000] 3)) w.heap.size 26 #[.int .i64 0, .slice none 0 0] := Blk.alloc (w := w3.drew) K _
    have od : OwnI 3 (w.heap.size + 1) (w3.drew.alloc (.cells #[.int .i64 1, .int .i64 (-1), .int .i64 1001, .int .i64 (-9223372036854775808), .int .i64 1000] 3)) (.slice (some ⟨vb, 0, none⟩) L.length cp) L := (o.keep (Below.refl _ _).drew).alloc _
    have G3d := K3d.cell
    have G3 := K3.cell
    have hmem : ∀ z ∈ [(1 : Int), -1, 1001, -9223372036854775808, 1000], InR z := by simp [InR]
    have HM := Lib.hid hmem
    have hL1 : (1 : Int) ≤ (L.length : Int) := by omega
    clear hpick hmem hlit
    go_wp2_with fail
    go_region_law
      (go_simp; go_at_call 65; refine HPK.out.mono ?_; rintro e w5 ⟨y, rfl, hy, D5, g5⟩; have K35 := K3d.cur0 (by omega) g5; have G35 := K35.cell; have K5 := Kd.cur0 C.zg g5; have o5 := od.cur0 (Nat.lt_succ_of_lt C.zg) g5; have C5 := C3d.next D5 g5; have c50 := o5.cellAt rfl 0 hL0; have f50 := o5.frozenAt rfl 0)
    all_goals
      have st := o5.stored rfl 0 y (HM.out y hy)
      have K6 := K5.grow st.2 (fun e => by have e2 : vb = w.heap.size := Option.some.inj e; omega)
      have C6 := C5.row st.2 (fun b e => by have e2 : vb = b := Option.some.inj e; omega)
      have G := K6.cell
      have F := K6.frozen
      have K36 := K35.grow st.2 (fun e => by have e2 : vb = w1.heap.size := Option.some.inj e; omega)
      have G36 := K36.cell
      go_wp2
      refine post_named ?_
      intro Wf hWf
      obtain ⟨KF, CF, oF⟩ := fun_tail C6 K6 st.1 (Nat.lt_succ_self _) hWf
      have GF := KF.cell
      clear hWf
      exact bodyPost_ret (v := .agg #[.int .i64 N, .slice (some ⟨vb, 0, none⟩) L.length cp]) (by simp [results, Try.results67, go_sem, GF]) rfl (by first | exact ⟨N, _, _, cp, L.set 0 y, rfl, ⟨by omega, by omega⟩, oF, by rw [List.length_set]; exact hL16, CF.D, CF.gr⟩ | exact ⟨N, _, _, cp, rfl, ⟨by omega, by omega⟩, L.set 0 y, oF, by rw [List.length_set]; exact hL16, CF.D, CF.gr⟩)
  have t0 : (x == 0) = false := by simp [hx0]
  have t1 : (x == 1) = false := by simp [hx1]
  have hNR : InR (N : Int) := ⟨by omega, by omega⟩
  clear hx0 hx1 hx
  have G3 := K3.cell
  have G := K.cell
  have F := K.frozen
  go_wp2
  refine post_named ?_
  intro Wf hWf
  obtain ⟨KF, CF, oF⟩ := fun_tail C K o (Nat.lt_succ_self _) hWf
  have GF := KF.cell
  clear hWf G3 G F
  exact bodyPost_ret (v := .agg #[.int .i64 N, .slice (some ⟨vb, 0, none⟩) L.length cp]) (by simp [results, Try.results67, go_sem, GF]) rfl (by first | exact ⟨N, _, _, cp, L, rfl, hNR, oF, hL16, CF.D, CF.gr⟩ | exact ⟨N, _, _, cp, rfl, hNR, L, oF, hL16, CF.D, CF.gr⟩)
end Go.Proofs.Ytgdkeaooipmgbaa
end
section
namespace Go.Proofs.Ytgdkeaooipmgbaa
open Go.RowKit Go.G5

set_option maxHeartbeats 4000000 in
set_option maxRecDepth 100000 in
theorem l8Order_any (w : World) (g : Nat) (D : Dr w g) (N : Nat) (hN : N ≤ 5) :
    Calls Try.prog 57 #[.pointer (some ⟨g, 0, none⟩), .int .i64 (N : Int)] w fun e w' => ∃ (ad : Option Addr) (i cp : Nat) (L : List Int), e = .returned (.slice ad i cp) ∧ OwnI 3 w.heap.size w' (.slice ad i cp) L ∧ L.length = N ∧ (∀ x ∈ L, 0 ≤ x ∧ x < N) ∧ Dr w' g ∧ w.grownBy w' (some g) := by
  have o0 := OwnI.lit0 (E := 3) (B := w.heap.size) w (Nat.le_refl _)
  have C := (Cur.start D).alloc (.cells #[] 3)
  go_enter Try.func57, Try.ntmps57
  go_wp2_with fail
  go_loopw [5, 6] (fun p i wr => ∃ (j : Nat) (a : Option Addr) (n c : Nat) (L : List Int), j ≤ N ∧ i = .int .i64 j ∧ p = .slice a n c ∧ L.length = j ∧ (∀ x ∈ L, 0 ≤ x ∧ x < j) ∧ OwnI 3 w.heap.size wr (.slice a n c) L ∧ Cur w wr g) (fun _ i _ => N - (intOf i).toNat)
  case atStart => exact ⟨0, _, _, _, [], Nat.zero_le _, rfl, rfl, rfl, by simp, o0, C⟩
  case round =>
    obtain ⟨j, a, n, c, L, hj, rfl, rfl, hLj, hL, o, C⟩ := hrel
    clear o0
    have hnn : n = L.length := o.ints.capLe.1
    subst hnn
    by_cases hlt : j < N
    · have hlt2 : (j : Int) < (N : Int) := by omega
      have hL5 : L.length ≤ 5 := by omega
      have hw1 : IntKind.i64.wrap ((L.length : Int) + 1) = (L.length : Int) + 1 := by rw [IntKind.wrap_i64]; omega
      have HL := Lib.hid (And.intro hLj hL)
      have hjr : InR (j : Int) := ⟨by omega, by omega⟩
      clear hLj hL
      go_wp2_with fail
      refine (l1Below_any wr g C.D ((L.length : Int) + 1)).mono ?_
      rintro e w3 ⟨x, rfl, _, hx, _, D3, g3⟩
      have hx := hx (by omega)
      obtain ⟨k, rfl⟩ := Int.eq_ofNat_of_zero_le hx.1
      have hk : k ≤ L.length := by omega
      have o := o.cur0 C.zg g3
      have C := C.next D3 g3
      have z3 := C.size
      obtain ⟨u1, u2⟩ := o.ints.upto 24 3 Try.underlying24 intElem k hk
      obtain ⟨a', c', d1, d2⟩ := o.ints.from 24 3 Try.underlying24 intElem k hk
      have zk : (L.take k).length = k := by rw [List.length_take, Nat.min_eq_left hk]
      have zd : (L.drop k).length = L.length - k := List.length_drop
      rw [zd] at d1 d2
      have hfin : ((([] ++ L.take k) ++ [(j : Int)]) ++ L.drop k).length = j + 1 ∧ ∀ z ∈ ((([] ++ L.take k) ++ [(j : Int)]) ++ L.drop k), 0 ≤ z ∧ z < ((j + 1 : Nat) : Int) := by
        refine ⟨by simp; have := HL.out.1; omega, fun z hz => ?_⟩
        have hin : z ∈ L ∨ z = (j : Int) := by
          rcases List.mem_append.1 hz with hz | hz
          · rcases List.mem_append.1 hz with hz | hz
            · exact .inl (List.mem_of_mem_take (by simpa using hz))
            · exact .inr (List.mem_singleton.1 hz)
          · exact .inl (List.mem_of_mem_drop hz)
        rcases hin with h | h
        · have := HL.out.2 z h; omega
        · rw [h]; omega
      have HFIN := Lib.hid hfin
      have HC := Lib.hid C
      clear zk zd hfin C D3 g3 hx
      go_wp2_with fail
      go_region_held3 (fun _ => True) (trivial)
        (first
          | (refine step_put rfl _ _ _ rfl 3 Try.underlying24 intElem w3.heap.size (.slice (some ⟨_, 0, none⟩) 0 0) [] rfl (.slice a k c) (L.take k) rfl ?_ ?_ ?_ w3 ?_ (Nat.le_refl _) ?_; (first | (with_reducible exact (OwnI.lit0 w3 (Nat.le_refl _)).drew') | (with_reducible exact ((OwnI.lit0 w3 (Nat.le_refl _)).alloc _).drew') | (with_reducible exact (OwnI.lit0' w3 _).drew')); (first | (with_reducible exact (u2.alloc _).drew') | (with_reducible exact ((u2.alloc _).alloc _).drew')); (simp; omega); (first | (with_reducible exact (bl1 w3 _).drew) | (with_reducible exact (bl2 w3 _ _).drew)); (intro v1 w4 o1 b1 pc))
          | (refine step_put rfl _ _ _ rfl 3 Try.underlying24 intElem w3.heap.size v1 ([] ++ L.take k) rfl (.slice (some ⟨_, 0, none⟩) 1 1) [(j : Int)] rfl ?_ ?_ ?_ w3 ?_ (Nat.le_refl _) ?_; (first | (with_reducible exact o1) | (with_reducible exact o1.alloc _)); (refine Ints.one ?_ hjr; first | (with_reducible exact cell_new _ _ _ _ _ rfl) | (with_reducible exact pc _ _ (cell_second _ _ _ _) (own_ne1 _ _ _)) | (with_reducible exact pc _ _ (cell_first _ _ _ _) (own_ne2 _ _ _))); (simp; omega); (first | (with_reducible exact b1) | (with_reducible exact b1.alloc b1.size _)); (intro v2 w5 o2 b2 _))
          | (refine step_put rfl _ _ _ rfl 3 Try.underlying24 intElem w3.heap.size v2 (([] ++ L.take k) ++ [(j : Int)]) rfl (.slice a' (L.length - k) c') (L.drop k) rfl o2 (d2.below b2 (Nat.le_refl _)) ?_ w3 b2 (Nat.le_refl _) ?_; (simp; omega); (intro v3 w6 o3 b3 _; obtain ⟨av, nv, cv, rfl⟩ := o3.shape3))
        )
      all_goals
        go_wp2
        go_roundw
        case rel => exact ⟨j + 1, av, nv, cv, _, by omega, by go_num, rfl, HFIN.out.1, HFIN.out.2, o3.mono z3, HC.out.keep b3⟩
        case measure => simp [intOf]; omega
    · have hjN : j = N := by omega
      have hlt2 : ¬ (j : Int) < (N : Int) := by omega
      subst hjN
      by_cases h1 : 1 < j
      · have h1i : (1 : Int) < (j : Int) := by omega
        have HL := Lib.hid (And.intro hLj hL)
        have h2L : 1 < L.length := by omega
        clear hLj hL
        go_wp2_with fail
        refine (l1Once_any wr g C.D 14).mono ?_
        rintro e w3 ⟨bb, rfl, D3, g3⟩
        have o := o.cur0 C.zg g3
        have C := C.next D3 g3
        cases bb with
        | false =>
          go_wp2
          go_ret
          first | exact ⟨a, L.length, c, rfl, L, o, HL.out.1, HL.out.2, C.D, C.gr⟩ | exact ⟨a, L.length, c, L, rfl, o, HL.out.1, HL.out.2, C.D, C.gr⟩
        | true =>
          obtain ⟨vb, hvb⟩ : ∃ vb, a = some ⟨vb, 0, none⟩ := by
            rcases o.cases with ⟨_, h⟩ | ⟨b, _, h, _⟩
            · rw [h] at h2L; simp at h2L
            · injection h with h1 _ _
              exact ⟨b, h1⟩
          subst hvb
          have c0 := o.cellAt rfl 0 (by omega)
          have f0 := o.frozenAt rfl 0
          have c1 := o.cellAt rfl 1 h2L
          have hm : L[1] ∈ L := List.getElem_mem h2L
          have hin := o.2 _ hm
          have hs : ∀ z ∈ L.set 0 L[1], 0 ≤ z ∧ z < (j : Int) := fun z hz => by
            rcases List.mem_or_eq_of_mem_set hz with h | h
            · exact HL.out.2 z h
            · rw [h]; exact HL.out.2 _ hm
          have hln : (L.set 0 L[1]).length = j := by rw [List.length_set]; exact HL.out.1
          obtain ⟨y, hy⟩ : ∃ y, y = L[1] := ⟨_, rfl⟩
          rw [← hy] at c1 hin hs hln
          have st := o.stored rfl 0 y hin
          have HS := Lib.hid (And.intro hs hln)
          have HST := Lib.hid st
          have HC := Lib.hid C
          have hvw := (o.lt vb rfl).1
          have CF := HC.out.row HST.out.2 (fun b e => by have e2 : vb = b := Option.some.inj e; omega)
          have i0 : (0 : Int) < (L.length : Int) := by omega
          have i1 : (1 : Int) < (L.length : Int) := by omega
          clear hs hln hy hm st C
          go_wp2
          go_ret
          first | exact ⟨_, L.length, c, rfl, _, HST.out.1, HS.out.2, HS.out.1, CF.D, CF.gr⟩ | exact ⟨_, L.length, c, _, rfl, HST.out.1, HS.out.2, HS.out.1, CF.D, CF.gr⟩
      · have h1i : ¬ (1 : Int) < (j : Int) := by omega
        have HL := Lib.hid (And.intro hLj hL)
        clear hLj hL
        go_wp2
        go_ret
        first | exact ⟨a, L.length, c, rfl, L, o, HL.out.1, HL.out.2, C.D, C.gr⟩ | exact ⟨a, L.length, c, L, rfl, o, HL.out.1, HL.out.2, C.D, C.gr⟩
set_option maxHeartbeats 4000000 in
set_option maxRecDepth 100000 in
theorem l7Draw_any (w : World) (g : Nat) (D : Dr w g) (N : Nat) (hN : N ≤ 5) :
    Calls Try.prog 58 #[.pointer (some ⟨g, 0, none⟩), .int .i64 (N : Int)] w fun e w' => ∃ (ad : Option Addr) (i cp : Nat) (L : List Int), e = .returned (.slice ad i cp) ∧ OwnI 3 w.heap.size w' (.slice ad i cp) L ∧ L.length = N ∧ Dr w' g ∧ w.grownBy w' (some g) := by
  have o0 := OwnI.lit0 (E := 3) (B := w.heap.size) w (Nat.le_refl _)
  have C := (Cur.start D).alloc (.cells #[] 3)
  go_enter Try.func58, Try.ntmps58
  go_wp2_with fail
  go_loopw [5, 6] (fun p i wr => ∃ (j : Nat) (a : Option Addr) (n c : Nat) (L : List Int), j ≤ N ∧ i = .int .i64 j ∧ p = .slice a n c ∧ L.length = j ∧ OwnI 3 w.heap.size wr (.slice a n c) L ∧ Cur w wr g) (fun _ i _ => N - (intOf i).toNat)
  case atStart => exact ⟨0, _, _, _, [], Nat.zero_le _, rfl, rfl, rfl, o0, C⟩
  case round =>
    obtain ⟨j, a, n, c, L, hj, rfl, rfl, hLj, o, C⟩ := hrel
    clear o0
    have hnn : n = L.length := o.ints.capLe.1
    subst hnn
    by_cases hlt : j < N
    · have hlt2 : (j : Int) < (N : Int) := by omega
      have hL5 : L.length ≤ 5 := by omega
      have HL := Lib.hid hLj
      clear hLj
      go_wp2_with fail
      refine (l1Below_any wr g C.D 9).mono ?_
      rintro e w3 ⟨x, rfl, _, hx, _, D3, g3⟩
      have hx := hx (by omega)
      have hx0 := hx.1
      have hx1 := hx.2
      have o := o.cur0 C.zg g3
      have C := C.next D3 g3
      have z3 := C.size
      have HC := Lib.hid C
      have HRA := Lib.hid o.lt
      clear C D3 g3 hx
      go_wp2_with (at_builtin; refine wpList_appendN1 rfl _ _ _ rfl 3 Try.underlying24 intElem w.heap.size (.slice a L.length c) L (x - 4) _ rfl rfl (cell_new _ _ _ _ _ rfl) (o.alloc _) ⟨by omega, by omega⟩ (by omega) (by simp; omega) ?_; intro v7 w7 o7 g7 h7; obtain ⟨p7, i7, q7, rfl⟩ := o7.shape3)
      have C7 := (HC.out.alloc (.cells #[.int .i64 (x - 4)] 3)).row g7 (fun q hq => (HRA.out q hq).1)
      go_roundw
      case rel => exact ⟨j + 1, p7, i7, q7, L ++ [x - 4], by omega, by go_num, rfl, by simp; exact HL.out, o7, C7⟩
      case measure => simp [intOf]; omega
    · have hjN : j = N := by omega
      have hlt2 : ¬ (j : Int) < (N : Int) := by omega
      subst hjN
      by_cases h0 : 0 < j
      · have h0i : (0 : Int) < (j : Int) := by omega
        have HL := Lib.hid hLj
        have h1L : 0 < L.length := by omega
        have hlit : ∀ (W : World), OwnI 3 W.heap.size (W.alloc (.cells #[.int .i64 1000, .int .i64 1001, .int .i64 101, .int .i64 (-9223372036854775808)] 3)) (.slice (some ⟨W.heap.size, 0, none⟩) 4 4) [1000, 1001, 101, -9223372036854775808] := fun W => ⟨World.ownsRow_lit W #[.int .i64 1000, .int .i64 1001, .int .i64 101, .int .i64 (-9223372036854775808)] 4 (Nat.le_refl _) (by decide) rfl, by simp [InR]⟩
        clear hLj
        go_wp2_with fail
        refine (l1Once_any wr g C.D 12).mono ?_
        rintro e w3 ⟨bb, rfl, D3, g3⟩
        have o := o.cur0 C.zg g3
        have C := C.next D3 g3
        cases bb with
        | false =>
          go_wp2
          go_ret
          first | exact ⟨a, L.length, c, rfl, L, o, HL.out, C.D, C.gr⟩ | exact ⟨a, L.length, c, L, rfl, o, HL.out, C.D, C.gr⟩
        | true =>
          obtain ⟨vb, hvb⟩ : ∃ vb, a = some ⟨vb, 0, none⟩ := by
            rcases o.cases with ⟨_, h⟩ | ⟨b, _, h, _⟩
            · rw [h] at h1L; simp at h1L
            · injection h with h1 _ _
              exact ⟨b, h1⟩
          subst hvb
          have C4 := C.alloc (.cells #[.int .i64 1000, .int .i64 1001, .int .i64 101, .int .i64 (-9223372036854775808)] 3)
          have o4 := o.alloc (.cells #[.int .i64 1000, .int .i64 1001, .int .i64 101, .int .i64 (-9223372036854775808)] 3)
          have hmem : ∀ z ∈ [(1000 : Int), 1001, 101, -9223372036854775808], InR z := by simp [InR]
          have HM := Lib.hid hmem
          have i0 : (0 : Int) < (L.length : Int) := by omega
          clear hmem
          go_wp2_with fail
          refine (l1PickInt_any _ g C4.D w3.heap.size (by have := C.size; have := C.zg; omega) _ _ (hlit w3) (by decide)).mono ?_
          rintro e w5 ⟨y, rfl, hy, D5, g5⟩
          have o := o4.cur0 C.zg g5
          have C := C4.next D5 g5
          have c0 := o.cellAt rfl 0 h1L
          have f0 := o.frozenAt rfl 0
          have st := o.stored rfl 0 y (HM.out y hy)
          have hvw := (o.lt vb rfl).1
          have CF := C.row st.2 (fun b e => by have e2 : vb = b := Option.some.inj e; omega)
          have HST := Lib.hid st
          clear st C4 o4 D5 g5 hlit hy HM
          go_wp2
          go_ret
          first | exact ⟨_, L.length, c, rfl, _, HST.out.1, by rw [List.length_set]; exact HL.out, CF.D, CF.gr⟩ | exact ⟨_, L.length, c, _, rfl, HST.out.1, by rw [List.length_set]; exact HL.out, CF.D, CF.gr⟩
      · have h0i : ¬ (0 : Int) < (j : Int) := by omega
        have HL := Lib.hid hLj
        clear hLj
        go_wp2
        go_ret
        first | exact ⟨a, L.length, c, rfl, L, o, HL.out, C.D, C.gr⟩ | exact ⟨a, L.length, c, L, rfl, o, HL.out, C.D, C.gr⟩
end Go.Proofs.Ytgdkeaooipmgbaa
end
