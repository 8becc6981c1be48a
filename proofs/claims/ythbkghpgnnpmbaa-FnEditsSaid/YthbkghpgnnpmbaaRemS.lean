/- Sets that are taken from a kept blocker, the second program. -/
import Derived.Test.YthbkghpgnnpmbaaRem
import Derived.Test.YthbkghpgnnpmbaaNewKeptS
namespace Go.Proofs.Ythbkghpgnnpmbaa
open Go.RowKit Go.G5

set_option maxHeartbeats 2000000 in
set_option maxRecDepth 100000 in
theorem removeSetS_c (w : World) (g : Int) (v : Value) (l : List Int) (hv : Ints w v l) (hl : l.length ≤ 1048576) (u : Value) (m : List Int) (hu : Ints w u m) (hm : m.length ≤ 1048576) (s : Int) (_ : InR s) :
    Calls Try.prog 15 #[.agg #[.int .i64 g, v, u], .int .i64 s] w fun e w' => ∃ ad i cp ad' i' cp', e = .returned (.tuple #[.agg #[.int .i64 (remN g l m s), .slice ad i cp, .slice ad' i' cp'], .bool (remF g l m s)]) ∧
      OwnW 3 w.heap.size w' (.slice ad i cp) (remK g l m s) ∧ OwnW 3 w.heap.size w' (.slice ad' i' cp') (remL g l m s) ∧ Apart (.slice ad i cp) (.slice ad' i' cp') ∧ Below w.heap.size w w' := by
  obtain ⟨a, b, off, c, rfl, hlen, hix, hc, hb⟩ := hv.view Try.prog 24 3 Try.underlying24 intElem
  obtain ⟨a', c', rfl⟩ := hu.shape
  go_enter Try.func15, Try.ntmps15
  go_wp2_with fail
  refine calls_named ?_
  intro V hV
  have B : Below w.heap.size w V := by rw [hV]; exact bl2 _ _ _
  have K1 : Blk V w.heap.size 28 #[.int .i64 g, .slice a l.length c, .slice a' m.length c'] := by rw [hV]; exact (Blk.new _ _ _).alloc _
  have K3 : Blk V (w.heap.size + 1) 28 #[.int .i64 0, .slice none 0 0, .slice none 0 0] := by rw [hV]; have := Blk.new (w.alloc (.cells #[.int .i64 g, .slice a l.length c, .slice a' m.length c'] 28)) 28 #[.int .i64 0, .slice none 0 0, .slice none 0 0]; simpa using this
  clear hV
  refine (isKeptS_c _ g _ l (hv.below B (Nat.le_refl _)) hl _ m (hu.below B (Nat.le_refl _)) hm).mono ?_
  rintro e w1 ⟨rfl, hb1⟩
  have K1 := K1.keep hb1
  have K3 := K3.keep hb1
  have B1 := B.after hb1 B.size
  have hv1 := hv.below B1 (Nat.le_refl _)
  clear hb1 B
  have G1 := K1.cell
  have G3 := K3.cell
  have F3 := K3.frozen
  have z3 := K3.lt
  cases hk : keptB g l m with
  | false =>
      have hN : remN g l m s = 0 := by unfold remN remOk; rw [hk]; rfl
      have hL : remL g l m s = [] := by unfold remL remOk; rw [hk]; rfl
      have hK : remK g l m s = [] := by unfold remK remOk; rw [hk]; rfl
      have hF : remF g l m s = false := by unfold remF remOk; rw [hk]; rfl
      have HN := Lib.hid hN
      have HL := Lib.hid hL
      have HK := Lib.hid hK
      have HF := Lib.hid hF
      clear hN hL hK hF hk
      go_wp2
      refine post_named ?_
      intro Wf hWf
      have K3f : Blk Wf (w.heap.size + 1) 28 #[.int .i64 0, .slice none 0 0, .slice none 0 0] := by
        rw [hWf]
        have := ((K3.set 0 (.int .i64 0)).set 1 (.slice none 0 0)).set 2 (.slice none 0 0)
        simpa using this
      have Bf : Below w.heap.size w Wf := by rw [hWf]; exact Below.setCell (Below.setCell (Below.setCell B1 (by first | omega | (simp; done) | (simp; omega)) _) (by first | omega | (simp; done) | (simp; omega)) _) (by first | omega | (simp; done) | (simp; omega)) _
      have Gf := K3f.cell
      clear hWf
      exact bodyPost_ret (v := .tuple #[.agg #[.int .i64 0, .slice none 0 0, .slice none 0 0], .bool false]) (by simp [results, Try.results15, go_sem, Gf]) rfl ⟨none, 0, 0, none, 0, 0, by rw [HN.out, HF.out], by rw [HK.out]; exact OwnW.nil _ _ _, by rw [HL.out]; exact OwnW.nil _ _ _, by intro k hk; simp [Value.ownBlock] at hk, Bf⟩
  | true =>
    have HKB := Lib.hid hk
    clear hk
    go_wp2_with fail
    refine (l10Has_any l _ s _ hv1).mono ?_
    rintro e w2 ⟨rfl, rfl⟩
    cases hh : has l s with
    | false =>
      have hN : remN g l m s = 0 := by unfold remN remOk; rw [HKB.out, hh]; rfl
      have hL : remL g l m s = [] := by unfold remL remOk; rw [HKB.out, hh]; rfl
      have hK : remK g l m s = [] := by unfold remK remOk; rw [HKB.out, hh]; rfl
      have hF : remF g l m s = false := by unfold remF remOk; rw [HKB.out, hh]; rfl
      have HN := Lib.hid hN
      have HL := Lib.hid hL
      have HK := Lib.hid hK
      have HF := Lib.hid hF
      clear hN hL hK hF hh
      go_wp2
      refine post_named ?_
      intro Wf hWf
      have K3f : Blk Wf (w.heap.size + 1) 28 #[.int .i64 0, .slice none 0 0, .slice none 0 0] := by
        rw [hWf]
        have := ((K3.set 0 (.int .i64 0)).set 1 (.slice none 0 0)).set 2 (.slice none 0 0)
        simpa using this
      have Bf : Below w.heap.size w Wf := by rw [hWf]; exact Below.setCell (Below.setCell (Below.setCell B1 (by first | omega | (simp; done) | (simp; omega)) _) (by first | omega | (simp; done) | (simp; omega)) _) (by first | omega | (simp; done) | (simp; omega)) _
      have Gf := K3f.cell
      clear hWf
      exact bodyPost_ret (v := .tuple #[.agg #[.int .i64 0, .slice none 0 0, .slice none 0 0], .bool false]) (by simp [results, Try.results15, go_sem, Gf]) rfl ⟨none, 0, 0, none, 0, 0, by rw [HN.out, HF.out], by rw [HK.out]; exact OwnW.nil _ _ _, by rw [HL.out]; exact OwnW.nil _ _ _, by intro k hk; simp [Value.ownBlock] at hk, Bf⟩
    | true =>
      have hok : remOk g l m s = true := by unfold remOk; rw [HKB.out, hh]; rfl
      have hN : remN g l m s = blkN g (keepL (remP s) l) := by unfold remN; rw [hok]; rfl
      have hL : remL g l m s = blkL g (keepL (remP s) l) := by unfold remL; rw [hok]; rfl
      have hK : remK g l m s = nkL g (keepL (remP s) l) := by unfold remK; rw [hok]; rfl
      have hF : remF g l m s = isFamB g (keepL (remP s) l) := by unfold remF; rw [hok]; rfl
      have HN := Lib.hid hN
      have HL := Lib.hid hL
      have HK := Lib.hid hK
      have HF := Lib.hid hF
      clear hN hL hK hF hok hh
      obtain ⟨wo, hwo⟩ : ∃ wo : World, wo = w1 := ⟨_, rfl⟩
      rw [← hwo] at K1 K3 B1 hv1 G1 G3 F3 z3 ⊢
      clear hwo
      have o0 := OwnI.lit0 (E := 3) (B := wo.heap.size) wo (Nat.le_refl _)
      go_wp2_with fail
      go_loopw [6, 7] (fun out i wr => ∃ (k : Nat) (ad : Option Addr) (nn cp : Nat), k ≤ l.length ∧ out = .slice ad nn cp ∧ i = .int .i64 k ∧ OwnI 3 wo.heap.size wr (.slice ad nn cp) (keepL (remP s) (l.take k)) ∧ Below wo.heap.size wo wr)
        (fun _ i _ => l.length - (intOf i).toNat)
      case atStart => exact ⟨0, _, _, _, Nat.zero_le _, rfl, rfl, o0, bl1 _ _⟩
      case round =>
        obtain ⟨k, ad, nn, cp, hk, rfl, rfl, ho, Br⟩ := hrel
        clear G1 G3 F3
        have K1r := K1.keep Br
        have G1 := K1r.cell
        have y1 := B1.size
        have yr := Br.size
        have hvr := hv1.below Br (Nat.le_refl _)
        have HO := Lib.hid ho
        clear ho
        by_cases hlt : k < l.length
        · have hck := cells_below hc hb (B1.after Br B1.size) (Nat.le_refl _) k hlt
          have htk := keepL_snoc (remP s) l k hlt
          have hkl := Nat.le_trans (keepL_len (remP s) (l.take k)) (List.length_take_le _ _)
          have hir := hvr.inR l[k] (List.getElem_mem hlt)
          obtain ⟨x, hx⟩ : ∃ x, x = l[k] := ⟨_, rfl⟩
          rw [← hx] at hck htk hir
          clear hx
          cases hp : (x != s) with
          | false =>
            have hq : remP s x = true := by unfold remP; simpa using hp
            rw [hq] at htk
            have HTK := Lib.hid htk
            clear htk hq
            go_wp2
            go_roundw
            case rel => exact ⟨k + 1, ad, nn, cp, by omega, rfl, by go_num, by rw [HTK.out]; simpa using HO.out, Br⟩
            case measure => simp [intOf]; omega
          | true =>
            have hq : remP s x = false := by unfold remP; simpa using hp
            rw [hq] at htk
            have HTK := Lib.hid htk
            clear htk hq
            go_wp2_with (at_builtin; refine wpList_appendI rfl _ _ _ rfl 3 Try.underlying24 intElem wo.heap.size _ _ x wr.heap.size rfl rfl (cell_new wr #[.int .i64 x] 3 0 _ rfl) (HO.out.alloc _) hir (by omega) (by simp; omega) ?_; intro v' w6 hown hgr; obtain ⟨av, nv, cv, rfl⟩ := hown.shape3)
            have hb6 : Below wo.heap.size wr w6 := below_grown (Below.alloc (Below.refl _ _) yr _) hgr (by simp; omega) (fun q hq => (HO.out.lt q hq).1)
            go_roundw
            case rel => exact ⟨k + 1, av, nv, cv, by omega, rfl, by go_num, by rw [HTK.out]; exact hown, Br.after hb6 (Nat.le_refl _)⟩
            case measure => simp [intOf]; omega
        · have o4 := HO.out.toW
          rw [List.take_of_length_le (by omega : l.length ≤ k)] at o4
          have hl4 := keepL_len (remP s) l
          obtain ⟨L, hL⟩ : ∃ L, L = keepL (remP s) l := ⟨_, rfl⟩
          rw [← hL] at o4 hl4
          have HLL := Lib.hid hL
          clear hL HO
          have K3 := K3.keep Br
          have B4 := B1.after Br B1.size
          clear K1 B1 Br hvr
          go_wp2_with fail
          refine (newKeptS_c _ g _ L o4.ints (by omega)).mono ?_
          rintro e w5 ⟨p5, i5, q5, p6, i6, q6, rfl, o5, o6, ap, hb5⟩
          have z4 := K3.lt
          have K3 := K3.keep hb5
          have y4 := B4.size
          have B5 := B4.after hb5 B4.size
          have F3 := K3.frozen
          have G3 := K3.cell
          have z5 := K3.lt
          have y5 := B5.size
          have y6 := hb5.size
          clear hb5 K1r G1
          obtain ⟨N, hN⟩ : ∃ N, N = blkN g L := ⟨_, rfl⟩
          obtain ⟨F, hF⟩ : ∃ F, F = isFamB g L := ⟨_, rfl⟩
          have HNN := Lib.hid hN
          have HFF := Lib.hid hF
          rw [← hN, ← hF]
          clear hN hF
          have hne1 : ¬ w.heap.size + 1 = w5.heap.size := by omega
          have hne2 : ¬ w5.heap.size = w.heap.size + 1 := by omega
          go_wp2
          refine post_named ?_
          intro Wf hWf
          have K3f : Blk Wf (w.heap.size + 1) 28 #[.int .i64 N, .slice p5 i5 q5, .slice p6 i6 q6] := by
            rw [hWf]
            have := (((K3.set 0 (.int .i64 N)).set 1 (.slice p5 i5 q5)).set 2 (.slice p6 i6 q6)).alloc (.cells #[.int .i64 N, .slice p5 i5 q5, .slice p6 i6 q6] 28)
            simpa using this
          have Bf : Below w.heap.size w Wf := by rw [hWf]; exact (Below.setCell (Below.setCell (Below.setCell B5 (by first | omega | (simp; done) | (simp; omega)) _) (by first | omega | (simp; done) | (simp; omega)) _) (by first | omega | (simp; done) | (simp; omega)) _).alloc (by simp; omega) _
          have f5 : OwnW 3 w.heap.size Wf (.slice p5 i5 q5) (nkL g L) := by rw [hWf]; exact ((((o5.setBelow (by first | omega | (simp; done) | (simp; omega)) _).setBelow (by first | omega | (simp; done) | (simp; omega)) _).setBelow (by first | omega | (simp; done) | (simp; omega)) _).alloc _).mono (by first | omega | (simp; done) | (simp; omega))
          have f6 : OwnW 3 w.heap.size Wf (.slice p6 i6 q6) (blkL g L) := by rw [hWf]; exact ((((o6.setBelow (by first | omega | (simp; done) | (simp; omega)) _).setBelow (by first | omega | (simp; done) | (simp; omega)) _).setBelow (by first | omega | (simp; done) | (simp; omega)) _).alloc _).mono (by first | omega | (simp; done) | (simp; omega))
          have Gf := K3f.cell
          clear hWf
          exact bodyPost_ret (v := .tuple #[.agg #[.int .i64 N, .slice p5 i5 q5, .slice p6 i6 q6], .bool F]) (by simp [results, Try.results15, go_sem, Gf]) rfl ⟨p5, i5, q5, p6, i6, q6, by rw [HN.out, HF.out, ← HLL.out, HNN.out, HFF.out], by rw [HK.out, ← HLL.out]; exact f5, by rw [HL.out, ← HLL.out]; exact f6, ap, Bf⟩
end Go.Proofs.Ythbkghpgnnpmbaa
