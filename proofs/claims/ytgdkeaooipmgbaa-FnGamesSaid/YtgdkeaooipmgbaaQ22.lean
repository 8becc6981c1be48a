/- Draws: games. Draws: what the law of games draws. -/
import Derived.Test.YtgdkeaooipmgbaaQ21
section
namespace Go.Proofs.Ytgdkeaooipmgbaa
open Go.RowKit Go.G5

theorem fomL_len32 (n : Int) (m : List Int) : (fomL n m).length ≤ 32 := by
  unfold fomL
  split
  · rename_i h
    have h1 : inB n 0 5 = true := by
      unfold fomB fomOk at h
      simp only [Bool.and_eq_true] at h
      exact h.1.1.1
    have h2 := inB_true.1 h1
    have h3 : (2 : Nat) ^ n.toNat ≤ 2 ^ 5 := Nat.pow_le_pow_right (by decide) (by omega)
    unfold fomV madeL
    simp; omega
  · simp
set_option maxHeartbeats 4000000 in
set_option maxRecDepth 100000 in
theorem l32Draw_any (w : World) (g : Nat) (D : Dr w g) :
    Calls Try.prog 33 #[.pointer (some ⟨g, 0, none⟩)] w fun e w' => ∃ (n : Int) (ad : Option Addr) (i cp : Nat) (l : List Int), e = .returned (.agg #[.int .i64 n, .slice ad i cp]) ∧ InR n ∧ OwnI 3 w.heap.size w' (.slice ad i cp) l ∧ l.length ≤ 32 ∧ Dr w' g ∧ w.grownBy w' (some g) := by
  go_enter Try.func33, Try.ntmps33
  go_wp2_with fail
  refine calls_named ?_
  intro V hV
  have C : Cur w V g := by rw [hV]; exact (Cur.start D).alloc _
  have K : Blk V w.heap.size 26 #[.int .i64 0, .slice none 0 0] := by rw [hV]; exact Blk.new _ _ _
  clear hV
  refine (l1Below_any V g C.D 5).mono ?_
  rintro e w1 ⟨n, rfl, _, hn, _, D1, g1⟩
  have hn := hn (by omega)
  have K := K.cur0 C.zg g1
  have C := C.next D1 g1
  obtain ⟨N, rfl⟩ := Int.eq_ofNat_of_zero_le hn.1
  have hN : N ≤ 4 := by omega
  clear g1 D1 hn
  have hp5 : (2 : Nat) ^ N ≤ 16 := Nat.pow_le_pow_right (n := 2) (by decide) hN
  have hpi := Lib.hid (show ((2 ^ N : Nat) : Int) = (2 : Int) ^ N by simp)
  have tp := two_pow N 4 hN
  have hp1 : (2 : Int) ^ N ≤ 16 := by rw [← hpi.out]; omega
  have hp2 := tp.2
  have hp3 := Nat.two_pow_pos N
  have hsh : IntKind.i64.wrap ((2 : Int) ^ N) = (2 : Int) ^ N := by rw [IntKind.wrap_i64]; omega
  clear tp
  have yK := K.lt
  have o0 : OwnI 3 (w.heap.size + 1) (w1.alloc (.cells #[.int .i64 0] 3)) (.slice (some ⟨w1.heap.size, 0, none⟩) 1 1) [0] := ⟨World.ownsRow_lit w1 #[.int .i64 0] 1 yK (by decide) rfl, by simp [InR]⟩
  go_wp2_with fail
  go_loopw [4, 5] (fun m i wr => ∃ (s : Nat) (ad : Option Addr) (nn cp : Nat) (L : List Int), s ≤ 2 ^ N ∧ m = .slice ad nn cp ∧ i = .int .i64 s ∧ L.length = s ∧ OwnI 3 (w.heap.size + 1) wr (.slice ad nn cp) L ∧ Cur w wr g ∧ Blk wr w.heap.size 26 #[.int .i64 0, .slice none 0 0]) (fun _ i _ => 2 ^ N - (intOf i).toNat)
  case atStart => exact ⟨1, _, _, _, [0], hp3, rfl, rfl, rfl, o0, C.alloc _, K.alloc _⟩
  case round =>
    obtain ⟨s, ad, nn, cp, L, hs, rfl, rfl, hLs, o, C, K⟩ := hrel
    clear o0
    by_cases hlt : s < 2 ^ N
    · have hlt2 : (s : Int) < (2 : Int) ^ N := by rw [← hpi.out]; exact_mod_cast hlt
      have HL := Lib.hid hLs
      have hL32 : L.length ≤ 32 := by omega
      clear hLs
      go_wp2_with fail
      refine (l1Below_any wr g C.D 4).mono ?_
      rintro e w6 ⟨x, rfl, _, hx, _, D6, g6⟩
      have hx := hx (by omega)
      have hx0 := hx.1
      have hx1 := hx.2
      have K := K.cur0 C.zg g6
      have o := o.cur0 (Nat.lt_succ_of_lt C.zg) g6
      have C := C.next D6 g6
      clear D6 g6 hx
      go_wp2_with fail
      refine (l1Below_any w6 g C.D 2).mono ?_
      rintro e w7 ⟨y, rfl, _, hy, _, D7, g7⟩
      have hy := hy (by omega)
      have hy0 := hy.1
      have hy1 := hy.2
      have K := K.cur0 C.zg g7
      have o := o.cur0 (Nat.lt_succ_of_lt C.zg) g7
      have C := C.next D7 g7
      have y7 := K.lt
      have HC := Lib.hid C
      have HK := Lib.hid K
      have HRA := Lib.hid o.lt
      clear C K D7 g7 hy
      go_wp2_with (at_builtin; refine wpList_appendN1 rfl _ _ _ rfl 3 Try.underlying24 intElem (w.heap.size + 1) (.slice ad nn cp) L (x - y) _ rfl rfl (cell_new _ _ _ _ _ rfl) (o.alloc _) ⟨by omega, by omega⟩ (by omega) (by simp; omega) ?_; intro v8 w8 o8 g8 h8; obtain ⟨p8, i8, q8, rfl⟩ := o8.shape3)
      have C8 := (HC.out.alloc (.cells #[.int .i64 (x - y)] 3)).row g8 (fun q hq => by have := (HRA.out q hq).1; omega)
      have K8 := (HK.out.alloc (.cells #[.int .i64 (x - y)] 3)).grow g8 (fun e => by have := (HRA.out _ e).1; omega)
      go_roundw
      case rel => exact ⟨s + 1, p8, i8, q8, L ++ [x - y], by omega, rfl, by go_num, by simp; exact HL.out, o8, C8, K8⟩
      case measure => simp [intOf]; omega
    · have hsN : s = 2 ^ N := by omega
      have hlt2 : ¬ (s : Int) < (2 : Int) ^ N := by rw [← hpi.out]; exact_mod_cast hlt
      have hnR : InR (N : Int) := ⟨by omega, by omega⟩
      have hL32 : L.length ≤ 1048576 := by omega
      have HFM := Lib.hid (fomS_c wr (N : Int) hnR _ L o.ints hL32)
      have hfl := fomL_len32 (N : Int) L
      have hfr : InR (fomN (N : Int) L) := by unfold fomN; split <;> exact ⟨by omega, by omega⟩
      have yK := K.lt
      clear hLs hsN hs hlt o
      go_wp2_with fail
      refine HFM.out.mono ?_
      rintro e w2 ⟨p2, i2, q2, rfl, o2, b2⟩
      have o := o2.mono (B' := w.heap.size + 1) yK
      have K := K.keep b2
      have C := C.keep b2
      obtain ⟨FL, hFL⟩ : ∃ q, q = fomL (N : Int) L := ⟨_, rfl⟩
      obtain ⟨FN, hFN⟩ : ∃ q, q = fomN (N : Int) L := ⟨_, rfl⟩
      obtain ⟨FB, hFB⟩ : ∃ q, q = fomB (N : Int) L := ⟨_, rfl⟩
      rw [← hFL] at o hfl
      rw [← hFN] at hfr ⊢
      rw [← hFB]
      have yK2 := K.lt
      have ro := o.lt
      clear o2 b2 hFL hFN hFB HFM
      go_wp2_with fail
      refine calls_named ?_
      intro V1 hV1
      have K3 : Blk V1 w2.heap.size 26 #[.int .i64 FN, .slice p2 i2 q2] := by
        rw [hV1]
        first
          | exact Blk.new _ _ _
          | (have := ((Blk.new w2 26 #[.int .i64 0, .slice none 0 0]).set 0 (.int .i64 FN)).set 1 (.slice p2 i2 q2); simpa using this)
      have g2 : w2.grownBy V1 (some w2.heap.size) := by
        rw [hV1]
        first
          | exact gr_below _ (bl1 _ _)
          | exact grow_set (grow_set (gr_below _ (bl1 _ _)) 0 _) 1 _
      have K := K.grow g2 (fun e => by have := Option.some.inj e; omega)
      have o := o.grow g2 (fun q hq e => by have := Option.some.inj hq; have := (ro q e).2; omega)
      have zz := C.size
      have C := C.row g2 (fun b e => by have := Option.some.inj e; omega)
      clear hV1 g2 ro
      refine (l1Once_any V1 g C.D 3).mono ?_
      rintro e w3 ⟨bb, rfl, D3, g3⟩
      have zg := C.zg
      have K := K.cur0 C.zg g3
      have K3 := K3.cur0 (by omega) g3
      have o := o.cur0 (Nat.lt_succ_of_lt C.zg) g3
      have C := C.next D3 g3
      clear D3 g3
      cases bb with
      | false =>
        have G := K.cell
        have F := K.frozen
        have G3 := K3.cell
        go_wp2
        refine post_named ?_
        intro Wf hWf
        obtain ⟨KF, CF, oF⟩ := fun_tail C K o (Nat.lt_succ_self _) hWf
        have GF := KF.cell
        clear hWf
        exact bodyPost_ret (v := .agg #[.int .i64 FN, .slice p2 i2 q2]) (by simp [results, Try.results33, go_sem, GF]) rfl (by first | exact ⟨FN, _, _, _, FL, rfl, hfr, oF, hfl, CF.D, CF.gr⟩ | exact ⟨FN, _, _, _, rfl, hfr, FL, oF, hfl, CF.D, CF.gr⟩)
      | true =>
        have yK4 := K.lt
        go_wp2_with fail
        refine (l2Any_any w3 g C.D).mono ?_
        rintro e w4 ⟨n4, p4, i4, q4, L4, rfl, hn4, o4, hl4, D4, g4⟩
        have K := K.cur0 C.zg g4
        have C := C.next D4 g4
        have o := o4.mono (B' := w.heap.size + 1) yK4
        have G := K.cell
        have F := K.frozen
        go_wp2
        refine post_named ?_
        intro Wf hWf
        obtain ⟨KF, CF, oF⟩ := fun_tail C K o (Nat.lt_succ_self _) hWf
        have GF := KF.cell
        clear hWf
        exact bodyPost_ret (v := .agg #[.int .i64 n4, .slice p4 i4 q4]) (by simp [results, Try.results33, go_sem, GF]) rfl (by first | exact ⟨n4, _, _, _, L4, rfl, hn4, oF, by omega, CF.D, CF.gr⟩ | exact ⟨n4, _, _, _, rfl, hn4, L4, oF, by omega, CF.D, CF.gr⟩)
end Go.Proofs.Ytgdkeaooipmgbaa
end
section
namespace Go.Proofs.Ytgdkeaooipmgbaa
open Go.RowKit Go.G5

set_option maxHeartbeats 2000000 in
set_option maxRecDepth 100000 in
theorem l8Perm_any (w : World) (N : Nat) (hN : N ≤ 5) (v : Value) (l : List Int) (hv : Ints w v l) :
    Calls Try.prog 75 #[v, .int .i64 (N : Int)] w fun e w' => ∃ b : Bool, e = .returned (.bool b) ∧ (b = true → l.length = N ∧ ∀ x ∈ l, 0 ≤ x ∧ x < (N : Int)) ∧ w = w' := by
  obtain ⟨a, b, off, c, rfl, hlen, hix, hc, hb⟩ := hv.view Try.prog 24 3 Try.underlying24 intElem
  go_enter Try.func75, Try.ntmps75
  go_wp2_with fail
  go_loop [5, 6] (fun s i => ∃ (k S : Nat), k ≤ l.length ∧ i = .int .i64 k ∧ s = .int .i64 S ∧ S < 2 ^ N ∧ (∀ j (h : j < l.length), j < k → 0 ≤ l[j] ∧ l[j] < (N : Int))) (fun _ i => l.length - (intOf i).toNat)
  case atStart => exact ⟨0, 0, Nat.zero_le _, rfl, rfl, Nat.two_pow_pos N, fun j h hj => by omega⟩
  case round =>
    obtain ⟨k, S, hk, rfl, rfl, hS, hall⟩ := hrel
    have HA := Lib.hid hall
    have hS32 : S < 32 := by have : (2 : Nat) ^ N ≤ 32 := Nat.pow_le_pow_right (n := 2) (by decide) hN
                             omega
    clear hall
    by_cases hlt : k < l.length
    · have hlt2 : (k : Int) < (l.length : Int) := by omega
      have ck := hc k hlt
      have ik := fun W => hix W k hlt
      have hin := fun W => l1In_any l[k] 0 ((N : Int) - 1) W
      have hR := hv.inR _ (List.getElem_mem hlt)
      have hw1 : IntKind.i64.wrap ((N : Int) - 1) = (N : Int) - 1 := by rw [IntKind.wrap_i64]; omega
      cases hib : inB l[k] 0 ((N : Int) - 1) with
      | false =>
        rw [hib] at hin
        have HIN := Lib.hid hin
        obtain ⟨x, hx⟩ : ∃ x, x = l[k] := ⟨_, rfl⟩
        rw [← hx] at ck HIN
        clear hib hin hx hc hix hR
        go_wp2_with fail
        refine (HIN.out _).mono ?_
        rintro e w' ⟨rfl, rfl⟩
        go_wp2
        go_ret
        exact ⟨false, rfl, by simp, rfl⟩
      | true =>
        have hx2 := inB_true.1 hib
        obtain ⟨e, he⟩ : ∃ e : Nat, l[k] = (e : Int) := ⟨l[k].toNat, by omega⟩
        rw [hib, he] at hin
        rw [he] at ck hx2
        have heN : e < N := by omega
        have hstep : ∀ j (h : j < l.length), j < k + 1 → 0 ≤ l[j] ∧ l[j] < (N : Int) := fun j h hj => by
          by_cases hjk : j < k
          · exact HA.out j h hjk
          · have : j = k := by omega
            subst this
            rw [he]; omega
        have HST := Lib.hid hstep
        have HIN := Lib.hid hin
        have hor := setBit_is S e (by omega) (by omega)
        have hsl := setBit_lt S e N hS heN
        have hp64 := two_pow e 6 (by omega)
        have hp1 : (2 : Int) ^ e ≤ 64 := by simpa using hp64.1
        have hp2 := hp64.2
        have hbit := bit_is (S : Int) e (by omega) (by omega)
        obtain ⟨q, hq⟩ : ∃ q, q = setBit S e := ⟨_, rfl⟩
        rw [← hq] at hor hsl
        obtain ⟨t, ht⟩ : ∃ t, (ibit (S : Int) e == 1) = t := ⟨_, rfl⟩
        clear hib hin he hstep hc hix hR hp64 hq
        cases t with
        | true =>
          go_wp2_with fail
          refine (HIN.out _).mono ?_
          rintro e w' ⟨rfl, rfl⟩
          go_wp2
          go_ret
          exact ⟨false, rfl, by simp, rfl⟩
        | false =>
          go_wp2_with fail
          refine (HIN.out _).mono ?_
          rintro e w' ⟨rfl, rfl⟩
          go_wp2
          go_round
          case rel => exact ⟨k + 1, q, by omega, by go_num, rfl, hsl, HST.out⟩
          case measure => simp [intOf]; omega
    · have hkl : k = l.length := by omega
      have hlt2 : ¬ (k : Int) < (l.length : Int) := by omega
      by_cases hln : l.length = N
      · have ht : ((l.length : Int) == (N : Int)) = true := by simp [hln]
        have hend : ∀ x ∈ l, 0 ≤ x ∧ x < (N : Int) := fun x hx => by
          obtain ⟨j, hj, rfl⟩ := List.getElem_of_mem hx
          exact HA.out j hj (by omega)
        have HE := Lib.hid (And.intro hln hend)
        clear hend hkl hln
        go_wp2
        go_ret
        first | exact .inr ⟨by rw [ht]; rfl, HE.out, rfl⟩ | exact .inr ⟨rfl, HE.out, rfl⟩
      · have ht : ((l.length : Int) == (N : Int)) = false := by simp; omega
        clear hkl hln
        go_wp2
        go_ret
        first | exact .inl ⟨rfl, rfl⟩ | exact .inl ⟨by rw [ht]; rfl, rfl⟩
set_option maxHeartbeats 2000000 in
set_option maxRecDepth 100000 in
theorem cornerOfS_any (w : World) (n : Int) (v u : Value) (l o : List Int) (hv : Ints w v l) (hu : Ints w u o) :
    Calls Try.prog 56 #[.agg #[.int .i64 n, v], u] w fun e w' => ∃ (b : Bool) (ad : Option Addr) (i c : Nat) (X : List Int), e = .returned (.tuple #[.slice ad i c, .bool b]) ∧ OwnI 3 w.heap.size w' (.slice ad i c) X ∧ X.length ≤ 5 ∧ Below w.heap.size w w' := by
  obtain ⟨a, c, rfl⟩ := hv.shape
  obtain ⟨au, cu, rfl⟩ := hu.shape
  have K0 := Blk.new w 26 #[.int .i64 n, .slice a l.length c]
  go_enter Try.func56, Try.ntmps56
  go_wp2_with fail
  refine (isGrS_any n l _ _ (hv.alloc _)).mono ?_
  rintro e w1 ⟨rfl, hb1⟩
  have K1 := K0.keep hb1
  have B1 : Below w.heap.size w w1 := (bl1 _ _).after hb1 (by simp)
  have o0 := (OwnI.lit0 (E := 3) (B := w1.heap.size) w1 (Nat.le_refl _)).mono (B' := w.heap.size) B1.size
  clear hb1 K0
  cases hg : isGrB n l with
  | false =>
    go_wp2
    go_ret2
    first | exact ⟨false, _, _, _, [], rfl, o0, by simp, B1.after (bl1 _ _) B1.size⟩ | exact ⟨_, _, _, rfl, [], o0, by simp, B1.after (bl1 _ _) B1.size⟩ | exact ⟨_, _, _, [], rfl, o0, by simp, B1.after (bl1 _ _) B1.size⟩
  | true =>
    obtain ⟨N, rfl, hN5, hl2, hl32, hlb⟩ := fun_nat (grOk hg)
    have HL2 := Lib.hid hl2
    have HLB := Lib.hid hlb
    have G1 := K1.cell
    clear hl2 hlb hg
    go_wp2_with fail
    refine (l8Perm_any w1 N hN5 _ o (hu.below B1 (Nat.le_refl _))).mono ?_
    rintro e w2 ⟨b, rfl, hb, rfl⟩
    cases b with
    | false =>
      clear hb
      go_wp2
      go_ret2
      first | exact ⟨false, _, _, _, [], rfl, o0, by simp, B1.after (bl1 _ _) B1.size⟩ | exact ⟨_, _, _, rfl, [], o0, by simp, B1.after (bl1 _ _) B1.size⟩ | exact ⟨_, _, _, [], rfl, o0, by simp, B1.after (bl1 _ _) B1.size⟩
    | true =>
      obtain ⟨h1, h2⟩ := hb rfl
      clear hb
      subst h1
      have HC := Lib.hid (l8Corner_any l o _ _ w1 (hv.below B1 (Nat.le_refl _)) (hu.below B1 (Nat.le_refl _)) hN5 HL2.out HLB.out h2)
      have hcl : (cornerL l o).length ≤ 5 := by unfold cornerL; rw [cornerTo_len]; exact hN5
      clear h2 o0
      go_wp2_with fail
      refine HC.out.mono ?_
      rintro e w3 ⟨p3, i3, q3, rfl, o3, b3⟩
      go_wp2
      go_ret2
      first | exact ⟨true, _, _, _, _, rfl, o3.mono B1.size, hcl, B1.after b3 B1.size⟩ | exact ⟨_, _, _, rfl, _, o3.mono B1.size, hcl, B1.after b3 B1.size⟩ | exact ⟨_, _, _, _, rfl, o3.mono B1.size, hcl, B1.after b3 B1.size⟩
end Go.Proofs.Ytgdkeaooipmgbaa
end
