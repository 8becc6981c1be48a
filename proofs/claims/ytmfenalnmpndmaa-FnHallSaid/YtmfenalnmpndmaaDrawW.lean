/- Draws: lists that may be representations; the elements of a set. -/
import Derived.Test.YtmfenalnmpndmaaDrawV
namespace Go.Proofs.Ytmfenalnmpndmaa
open Go.RowKit Go.G5


set_option maxHeartbeats 1000000 in
theorem elS_any (n : Nat) (hn : n ≤ 6) (s : Int) (w : World) (h0 : 0 ≤ s) (h1 : s < 2 ^ n) :
    Calls Try.prog 52 #[.int .i64 n, .int .i64 s] w fun e w' => ∃ ad i cp, e = .returned (.slice ad i cp) ∧ OwnI 3 w.heap.size w' (.slice ad i cp) (elL s) ∧ Below w.heap.size w w' := by
  have hp := two_pow n 6 hn
  have hin1 : inB (n : Int) 0 10 = true := inB_true.2 ⟨by omega, by omega⟩
  have hin2 : inB s 0 (2 ^ n - 1) = true := inB_true.2 ⟨h0, by omega⟩
  have HI1 := Lib.hid (fun W => l1In_any (n : Int) 0 10 W)
  have HI2 := Lib.hid (fun W => l1In_any s 0 (2 ^ n - 1) W)
  have HF := Lib.hid (fun W => l2Full_any n W (by omega))
  have hs64 : s < 64 := by omega
  go_enter Try.func52, Try.ntmps52
  go_wp2_with fail
  refine (HI1.out _).mono ?_
  rintro e w1 ⟨rfl, rfl⟩
  rw [hin1]
  go_wp2_with fail
  refine (HF.out _).mono ?_
  rintro e w2 ⟨rfl, rfl⟩
  go_wp2_with fail
  refine (HI2.out _).mono ?_
  rintro e w2 ⟨rfl, rfl⟩
  rw [hin2]
  go_wp2_with fail
  refine (l2List_i s _ h0 hs64).mono ?_
  rintro e w3 ⟨p, i, q, rfl, o3, b3⟩
  go_wp2
  go_ret
  exact ⟨p, i, q, rfl, o3, b3⟩
theorem repL_inR (g : Int) (l : List Int) {E : TypeId} {B : Nat} {w : World} {v : Value} (h : OwnW E B w v (repL g l)) : ∀ x ∈ repL g l, InR x := h.ints.inR
set_option maxHeartbeats 4000000 in
set_option maxRecDepth 100000 in
theorem drawIsRep_any (w : World) (v : Value) (l : List Nat) (hv : Byts w v l) :
    Calls Try.prog 53 #[v] w fun e w' => ∃ (n : Int) (p : Option Addr) (i q : Nat) (L : List Int) (p2 : Option Addr) (i2 q2 : Nat) (X : List Int), e = .returned (.tuple #[.int .i64 n, .slice p i q, .slice p2 i2 q2]) ∧ Ints w' (.slice p i q) L ∧ Ints w' (.slice p2 i2 q2) X ∧ Below w.heap.size w w' := by
  have hv0 := hv
  obtain ⟨a, c, rfl, _⟩ := hv
  go_enter Try.func53, Try.ntmps53
  go_wp2_with fail
  refine (l28Both_any w _ _ hv0).mono ?_
  rintro e w1 ⟨n, p, i, q, L, rfl, hn, o1, hL, b1⟩
  have h1 := o1.ints
  obtain ⟨p', q', hsh⟩ := h1.shape
  injection hsh with e1 e2 e3
  subst e1 e2 e3
  clear o1
  go_wp2_with fail
  refine (repS_c w1 n hn _ L h1 (by omega)).mono ?_
  rintro e w2 ⟨p2, i2, q2, rfl, o2, b2⟩
  have h2 := h1.keep b2
  have B2 := b1.after b2 b1.size
  have hx2 := o2.ints
  clear o2 h1
  have hyt : ∀ k : Nat, Int.tmod (k : Int) 3 = ((k % 3 : Nat) : Int) := fun k => by rw [Int.tmod_eq_emod_of_nonneg (by omega)]; rfl
  obtain ⟨w3, hw3⟩ : ∃ W, W = w2.alloc (.cells #[] 3) := ⟨_, rfl⟩
  have b3 : Below w2.heap.size w2 w3 := by rw [hw3]; exact bl1 _ _
  have o3 : OwnI 3 w2.heap.size w3 (.slice (some ⟨w2.heap.size, 0, none⟩) 0 0) [] := by rw [hw3]; exact OwnI.lit0 w2 (Nat.le_refl _)
  have y3 := b3.size
  have ht := hyt l.length
  have HYT := Lib.hid hyt
  clear hyt
  obtain ⟨m, hm⟩ : ∃ m, m = l.length % 3 := ⟨_, rfl⟩
  rw [← hm] at ht
  have hm3 : m < 3 := by omega
  clear hm
  cases hr : repB n L with
  | false =>
    clear hr
    go_wp2_with fail
    rw [← hw3]
    clear hw3
    go_loopw [9, 10] (fun out kk wr => ∃ (k : Nat) (ad : Option Addr) (nn cp : Nat) (Y : List Int), k ≤ L.length ∧ out = .slice ad nn cp ∧ kk = .int .i64 k ∧ Y.length = k ∧ OwnI 3 w2.heap.size wr (.slice ad nn cp) Y ∧ Below w2.heap.size w2 wr) (fun _ kk _ => L.length - (intOf kk).toNat)
    case atStart => exact ⟨0, _, _, _, [], Nat.zero_le _, rfl, rfl, rfl, o3, b3⟩
    case round =>
      clear o3 b3
      obtain ⟨k, ad, nn, cp, Y, hk, rfl, rfl, hY, o, Bk⟩ := hrel
      have yk := Bk.size
      by_cases hlt : k < L.length
      · have tk := HYT.out k
        have hyr : InR ((k % 3 : Nat) : Int) := ⟨by omega, by omega⟩
        obtain ⟨y, hy⟩ : ∃ y : Int, y = ((k % 3 : Nat) : Int) := ⟨_, rfl⟩
        rw [← hy] at tk hyr
        have HYR := Lib.hid hyr
        have HY := Lib.hid hY
        have hY6 : Y.length ≤ 6 := by omega
        have ro := o.lt
        clear hyr hY hy
        go_wp2_with (at_builtin; refine wpList_appendI rfl _ _ _ rfl 3 Try.underlying24 intElem w2.heap.size _ _ y wr.heap.size rfl rfl (cell_new wr #[.int .i64 y] 3 0 _ rfl) (o.alloc _) HYR.out (by omega) (by simp; omega) ?_; intro v' w6 hown hgr; obtain ⟨av, nv, cv, rfl⟩ := hown.shape3)
        have B6 : Below w2.heap.size w2 w6 := (Bk.alloc Bk.size (.cells #[.int .i64 y] 3)).grown hgr (by simp; omega) (fun p hp => (ro p hp).1)
        go_roundw
        case rel => exact ⟨k + 1, av, nv, cv, Y ++ [y], by omega, rfl, by go_num, by rw [List.length_append, HY.out]; rfl, hown, B6⟩
        case measure => simp [intOf]; omega
      · go_wp2
        exact bodyPost_ret (v := .tuple #[.int .i64 n, .slice p L.length q, .slice ad nn cp]) (by simp [results, Try.results53, go_sem]) rfl ⟨n, p, L.length, q, L, ad, nn, cp, Y, rfl, h2.below Bk (Nat.le_refl _), o.ints, B2.after Bk B2.size⟩
  | true =>
    clear hr
    by_cases h0 : 0 < m
    · have t0 : (0 : Int) < (m : Int) := by omega
      clear o3 b3 hw3
      go_wp2
      exact bodyPost_ret (v := .tuple #[.int .i64 n, .slice p L.length q, .slice p2 i2 q2]) (by simp [results, Try.results53, go_sem]) rfl ⟨n, p, L.length, q, L, p2, i2, q2, _, rfl, h2, hx2, B2⟩
    · have t0 : ¬ (0 : Int) < (m : Int) := by omega
      go_wp2_with fail
      rw [← hw3]
      clear hw3
      go_loopw [9, 10] (fun out kk wr => ∃ (k : Nat) (ad : Option Addr) (nn cp : Nat) (Y : List Int), k ≤ L.length ∧ out = .slice ad nn cp ∧ kk = .int .i64 k ∧ Y.length = k ∧ OwnI 3 w2.heap.size wr (.slice ad nn cp) Y ∧ Below w2.heap.size w2 wr) (fun _ kk _ => L.length - (intOf kk).toNat)
      case atStart => exact ⟨0, _, _, _, [], Nat.zero_le _, rfl, rfl, rfl, o3, b3⟩
      case round =>
        clear o3 b3
        obtain ⟨k, ad, nn, cp, Y, hk, rfl, rfl, hY, o, Bk⟩ := hrel
        have yk := Bk.size
        by_cases hlt : k < L.length
        · have tk := HYT.out k
          have hyr : InR ((k % 3 : Nat) : Int) := ⟨by omega, by omega⟩
          obtain ⟨y, hy⟩ : ∃ y : Int, y = ((k % 3 : Nat) : Int) := ⟨_, rfl⟩
          rw [← hy] at tk hyr
          have HYR := Lib.hid hyr
          have HY := Lib.hid hY
          have hY6 : Y.length ≤ 6 := by omega
          have ro := o.lt
          clear hyr hY hy
          go_wp2_with (at_builtin; refine wpList_appendI rfl _ _ _ rfl 3 Try.underlying24 intElem w2.heap.size _ _ y wr.heap.size rfl rfl (cell_new wr #[.int .i64 y] 3 0 _ rfl) (o.alloc _) HYR.out (by omega) (by simp; omega) ?_; intro v' w6 hown hgr; obtain ⟨av, nv, cv, rfl⟩ := hown.shape3)
          have B6 : Below w2.heap.size w2 w6 := (Bk.alloc Bk.size (.cells #[.int .i64 y] 3)).grown hgr (by simp; omega) (fun p hp => (ro p hp).1)
          go_roundw
          case rel => exact ⟨k + 1, av, nv, cv, Y ++ [y], by omega, rfl, by go_num, by rw [List.length_append, HY.out]; rfl, hown, B6⟩
          case measure => simp [intOf]; omega
        · go_wp2
          exact bodyPost_ret (v := .tuple #[.int .i64 n, .slice p L.length q, .slice ad nn cp]) (by simp [results, Try.results53, go_sem]) rfl ⟨n, p, L.length, q, L, ad, nn, cp, Y, rfl, h2.below Bk (Nat.le_refl _), o.ints, B2.after Bk B2.size⟩
end Go.Proofs.Ytmfenalnmpndmaa
