/- Cross-free families: the loops of both programs. Shadows, and families that are closed downward: the first program. -/
import Derived.Test.YtipejodijbjpcaaGreatDoorQ31
section
namespace Go.Proofs.YtipejodijbjpcaaGreatDoor
open Go.RowKit Go.G5

def crRow (N : Nat) (l : List Int) (i q : Nat) : Bool := allTo (fun k => !crI N (l.getD i 0) (l.getD k 0)) q
theorem cross_is {g : Int} {N : Nat} {l : List Int} (hf : isFamB g l = true) (hg : g.toNat = N) : crossB g l = allTo (fun i => crRow N l i i) l.length := by
  unfold crossB crRow
  rw [hf, hg]; rfl
set_option maxHeartbeats 1000000 in
set_option maxRecDepth 100000 in
theorem crossFreeI_any (g : Int) (l : List Int) (v : Value) (w : World) (hv : Ints w v l) (hf : isFamB g l = true) :
    Calls Tryz.prog 101 #[.agg #[.int .i64 g, v]] w fun e w' => e = .returned (.bool (crossB g l)) ∧ Below w.heap.size w w' := by
  have hv0 := hv
  obtain ⟨a, b, off, c, rfl, hlen, hix, hc, hb⟩ := hv.view Tryz.prog 22 3 Tryz.underlying22 intElem
  have hcap := hv0.capLe
  obtain ⟨h0, h6, hq1, hq2⟩ := famOk hf
  obtain ⟨N, rfl⟩ := Int.eq_ofNat_of_zero_le h0
  have hN : N ≤ 6 := by omega
  have hx := cross_is hf (Int.toNat_natCast N)
  simp only [Int.toNat_natCast] at hq1
  have K0 := Blk.new w 27 #[.int .i64 (N : Int), .slice a l.length c]
  have hfm := isFamI_any (N : Int) l _ _ (hv0.alloc (.cells #[.int .i64 (N : Int), .slice a l.length c] 27))
  rw [hf] at hfm
  have HX := Lib.hid hx
  have HM := Lib.hid hq1
  have HFM := Lib.hid hfm
  have HC := Lib.hid hc
  clear hx hq1 hq2 hfm hf hc
  go_enter Tryz.func101, Tryz.ntmps101
  go_wp2_with fail
  refine HFM.out.mono ?_
  rintro e w1 ⟨rfl, b1⟩
  have B1 : Below w.heap.size w w1 := (bl1 _ _).after b1 (by simp)
  have K1 := K0.keep b1
  have G := K1.cell
  clear K0 b1
  go_wp2_with fail
  clear G
  go_loopw [13] (fun iv wr => ∃ k : Nat, k ≤ l.length ∧ iv = .int .i64 k ∧ allTo (fun i => crRow N l i i) k = true ∧ Below w1.heap.size w1 wr) (fun iv _ => l.length - (intOf iv).toNat)
  case atStart => exact ⟨0, Nat.zero_le _, rfl, rfl, Below.refl _ _⟩
  case round =>
    obtain ⟨k, hk, rfl, hall, Bw⟩ := hrel
    obtain ⟨wo, rfl⟩ : ∃ z : World, z = wr := ⟨_, rfl⟩
    have H := Lib.hid hall
    have B2 := B1.after Bw B1.size
    have K2 := K1.keep Bw
    clear hall
    by_cases hlt : k < l.length
    · have hlt2 : (k : Int) < (l.length : Int) := by omega
      have hlk := HM.out _ (List.getElem_mem hlt)
      have ck := cells_below HC.out hb B2 (Nat.le_refl _) k hlt
      have ik := fun W => hix W k hlt
      have hixk := index_take (hv0.below B2 (Nat.le_refl _)) Tryz.prog 22 3 Tryz.underlying22 hix k hk
      have G := K2.cell
      obtain ⟨x, hx⟩ : ∃ x, x = l[k] := ⟨_, rfl⟩
      have hgx : l.getD k 0 = x := by rw [hx]; exact getD_at l k hlt
      rw [← hx] at hlk ck
      have HGX := Lib.hid hgx
      clear hx hgx
      go_wp2_with fail
      clear G
      go_loopw [23] (fun jv wr => ∃ q : Nat, q ≤ k ∧ jv = .int .i64 q ∧ crRow N l k q = true ∧ Below wo.heap.size wo wr) (fun jv _ => k - (intOf jv).toNat)
      case atStart => exact ⟨0, by omega, rfl, rfl, Below.refl _ _⟩
      case round =>
        obtain ⟨q, hq, rfl, hin, Bi⟩ := hrel
        obtain ⟨wi, rfl⟩ : ∃ z : World, z = wr := ⟨_, rfl⟩
        have HI := Lib.hid hin
        have B3 := B2.after Bi B2.size
        have K3 := K2.keep Bi
        clear hin
        by_cases hqk : q < k
        · have hql : q < l.length := by omega
          have hqk2 : (q : Int) < (k : Int) := by omega
          have hlq := HM.out _ (List.getElem_mem hql)
          have cq := cells_below HC.out hb B3 (Nat.le_refl _) q hql
          obtain ⟨y, hy⟩ : ∃ y, y = l[q] := ⟨_, rfl⟩
          have hgy : l.getD q 0 = y := by rw [hy]; exact getD_at l q hql
          rw [← hy] at hlq cq
          have hcr := crossI_any N x y wi hN hlk hlq
          have HGY := Lib.hid hgy
          have G := K3.cell
          obtain ⟨z, hz⟩ : ∃ z, z = crI N x y := ⟨_, rfl⟩
          rw [← hz] at hcr
          have HZ := Lib.hid hz
          have HCR := Lib.hid hcr
          clear hy hgy hz hcr
          cases z with
          | true =>
            have hx2 : crossB (N : Int) l = false := by
              rw [HX.out]
              exact allTo_false (p := fun i => crRow N l i i) hlt (allTo_false (p := fun k' => !crI N (l.getD k 0) (l.getD k' 0)) hqk (by rw [HGX.out, HGY.out, ← HZ.out]; rfl))
            have HX2 := Lib.hid hx2
            clear hx2
            go_wp2_with fail
            refine HCR.out.mono ?_
            rintro e w5 ⟨rfl, b5⟩
            go_wp2
            go_ret
            exact ⟨ret_bool HX2.out.symm, B3.after b5 B3.size⟩
          | false =>
            have hin2 : crRow N l k (q + 1) = true := allTo_succ (p := fun k' => !crI N (l.getD k 0) (l.getD k' 0)) HI.out (by rw [HGX.out, HGY.out, ← HZ.out]; rfl)
            have HI2 := Lib.hid hin2
            clear hin2
            go_wp2_with fail
            refine HCR.out.mono ?_
            rintro e w5 ⟨rfl, b5⟩
            go_wp2
            go_roundw
            case rel => exact ⟨q + 1, by omega, by go_num, HI2.out, Bi.after b5 Bi.size⟩
            case measure => simp [intOf]; omega
        · have hqk2 : ¬ (q : Int) < (k : Int) := by omega
          have hkq : k = q := by omega
          have hal : allTo (fun i => crRow N l i i) (k + 1) = true := allTo_succ (p := fun i => crRow N l i i) H.out (by have := HI.out; rw [← hkq] at this; exact this)
          have HAL := Lib.hid hal
          clear hal
          go_wp2
          go_roundw
          case rel => exact ⟨k + 1, by omega, by go_num, HAL.out, Bw.after Bi Bw.size⟩
          case measure => simp [intOf]; omega
    · have hlt2 : ¬ (k : Int) < (l.length : Int) := by omega
      have hkl : l.length = k := by omega
      have hx2 : crossB (N : Int) l = true := by rw [HX.out, hkl, H.out]
      have HX2 := Lib.hid hx2
      clear hx2 hkl
      go_wp2
      go_ret
      exact ⟨ret_bool HX2.out.symm, B2⟩

set_option maxHeartbeats 1000000 in
set_option maxRecDepth 100000 in
theorem crossFreeS_any (g : Int) (l : List Int) (v : Value) (w : World) (hv : Ints w v l) (hf : isFamB g l = true) :
    Calls Tryz.prog 84 #[.agg #[.int .i64 g, v]] w fun e w' => e = .returned (.bool (crossB g l)) ∧ Below w.heap.size w w' := by
  have hv0 := hv
  obtain ⟨a, b, off, c, rfl, hlen, hix, hc, hb⟩ := hv.view Tryz.prog 22 3 Tryz.underlying22 intElem
  obtain ⟨h0, h6, hq1, hq2⟩ := famOk hf
  obtain ⟨N, rfl⟩ := Int.eq_ofNat_of_zero_le h0
  have hN : N ≤ 6 := by omega
  have hx := cross_is hf (Int.toNat_natCast N)
  simp only [Int.toNat_natCast] at hq1
  have K0 := Blk.new w 27 #[.int .i64 (N : Int), .slice a l.length c]
  have hfm := fun W (h : Ints W (.slice a l.length c) l) => isFamS_any (N : Int) l _ W h
  simp only [hf] at hfm
  have HX := Lib.hid hx
  have HM := Lib.hid hq1
  have HFM := Lib.hid hfm
  have HC := Lib.hid hc
  have HIX := Lib.hid hix
  clear hx hq1 hq2 hfm hf hc hix
  go_enter Tryz.func84, Tryz.ntmps84
  go_wp2_with fail
  go_loopw [3] (fun iv wr => ∃ k : Nat, k ≤ l.length ∧ iv = .int .i64 k ∧ allTo (fun i => crRow N l i i) k = true ∧ Blk wr w.heap.size 27 #[.int .i64 (N : Int), .slice a l.length c] ∧ Below w.heap.size w wr) (fun iv _ => l.length - (intOf iv).toNat)
  case atStart => exact ⟨0, Nat.zero_le _, rfl, rfl, K0, bl1 _ _⟩
  case round =>
    obtain ⟨k, hk, rfl, hall, K1, B1⟩ := hrel
    obtain ⟨wo, rfl⟩ : ∃ z : World, z = wr := ⟨_, rfl⟩
    have H := Lib.hid hall
    have G := K1.cell
    clear hall K0
    go_wp2_with fail
    refine (HFM.out wo (hv0.below B1 (Nat.le_refl _))).mono ?_
    rintro e w2 ⟨rfl, b2⟩
    have B2 := B1.after b2 B1.size
    have K2 := K1.keep b2
    clear G K1 B1 b2
    have G := K2.cell
    by_cases hlt : k < l.length
    · have hlt2 : (k : Int) < (l.length : Int) := by omega
      have hlk := HM.out _ (List.getElem_mem hlt)
      have ik := fun W => HIX.out W k hlt
      have ck2 := cells_below HC.out hb B2 (Nat.le_refl _) k hlt
      obtain ⟨x, hx⟩ : ∃ x, x = l[k] := ⟨_, rfl⟩
      have hgx : l.getD k 0 = x := by rw [hx]; exact getD_at l k hlt
      rw [← hx] at hlk ck2
      have HGX := Lib.hid hgx
      clear hx hgx
      go_wp2_with fail
      go_loopw [4] (fun jv wr => ∃ (q m : Nat), q ≤ k ∧ jv = .int .i64 q ∧ crRow N l k q = true ∧ wr = w2.drewN m) (fun jv _ => k - (intOf jv).toNat)
      case atStart => exact ⟨0, 0, by omega, rfl, rfl, rfl⟩
      case round =>
        obtain ⟨q, m, hq, rfl, hin, rfl⟩ := hrel
        have HI := Lib.hid hin
        clear hin
        by_cases hqk : q < k
        · have hql : q < l.length := by omega
          have hqk2 : (q : Int) < (k : Int) := by omega
          have hlq := HM.out _ (List.getElem_mem hql)
          have cq := cells_below HC.out hb B2 (Nat.le_refl _) q hql
          have iq := fun W => HIX.out W q hql
          obtain ⟨y, hy⟩ : ∃ y, y = l[q] := ⟨_, rfl⟩
          have hgy : l.getD q 0 = y := by rw [hy]; exact getD_at l q hql
          rw [← hy] at hlq cq
          have hcr := fun W => crossS_any N x y W hN hlk hlq
          have HGY := Lib.hid hgy
          obtain ⟨z, hz⟩ : ∃ z, z = crI N x y := ⟨_, rfl⟩
          simp only [← hz] at hcr
          have HZ := Lib.hid hz
          have HCR := Lib.hid hcr
          clear hy hgy hz hcr
          cases z with
          | true =>
            have hx2 : crossB (N : Int) l = false := by
              rw [HX.out]
              exact allTo_false (p := fun i => crRow N l i i) hlt (allTo_false (p := fun k' => !crI N (l.getD k 0) (l.getD k' 0)) hqk (by rw [HGX.out, HGY.out, ← HZ.out]; rfl))
            have HX2 := Lib.hid hx2
            clear hx2
            go_wp2_with fail
            go_quiet ((go_at_call 221; first | exact q_same2 (HCR.out _) | exact q_same (HCR.out _)))
            go_wp2
            go_ret
            exact ⟨ret_bool HX2.out.symm, (B2.drewN' _).drewN' _⟩
          | false =>
            have hin2 : crRow N l k (q + 1) = true := allTo_succ (p := fun k' => !crI N (l.getD k 0) (l.getD k' 0)) HI.out (by rw [HGX.out, HGY.out, ← HZ.out]; rfl)
            have HI2 := Lib.hid hin2
            clear hin2
            go_wp2_with fail
            go_quiet ((go_at_call 221; first | exact q_same2 (HCR.out _) | exact q_same (HCR.out _)))
            go_wp2
            go_roundw
            case rel => exact ⟨q + 1, m + nq, by omega, by go_num, HI2.out, by simp⟩
            case measure => simp [intOf]; omega
        · have hqk2 : ¬ (q : Int) < (k : Int) := by omega
          have hkq : k = q := by omega
          have hal : allTo (fun i => crRow N l i i) (k + 1) = true := allTo_succ (p := fun i => crRow N l i i) H.out (by have := HI.out; rw [← hkq] at this; exact this)
          have HAL := Lib.hid hal
          clear hal
          go_wp2
          go_roundw
          case rel => exact ⟨k + 1, by omega, by go_num, HAL.out, K2.drewN _, B2.drewN' _⟩
          case measure => simp [intOf]; omega
    · have hlt2 : ¬ (k : Int) < (l.length : Int) := by omega
      have hkl : l.length = k := by omega
      have hx2 : crossB (N : Int) l = true := by rw [HX.out, hkl, H.out]
      have HX2 := Lib.hid hx2
      clear hx2 hkl
      go_wp2_with fail
      refine (HFM.out w2 (hv0.below B2 (Nat.le_refl _))).mono ?_
      rintro e w3 ⟨rfl, b3⟩
      go_wp2
      go_ret
      exact ⟨ret_bool HX2.out.symm, B2.after b3 B2.size⟩
end Go.Proofs.YtipejodijbjpcaaGreatDoor
end
section
namespace Go.Proofs.YtipejodijbjpcaaGreatDoor
open Go.RowKit Go.G5

set_option maxHeartbeats 4000000 in
set_option maxRecDepth 100000 in
theorem shadowI_c (w : World) (g : Int) (v : Value) (l : List Int) (hv : Ints w v l) (hl : l.length ≤ 1048576) :
    Calls Tryz.prog 233 #[.agg #[.int .i64 g, v]] w fun e w' => ∃ ad i cp, e = .returned (.tuple #[.agg #[.int .i64 (shN g l), .slice ad i cp], .bool (isFamB g l)]) ∧ OwnW 3 w.heap.size w' (.slice ad i cp) (shL g l) ∧ Below w.heap.size w w' := by
  obtain ⟨a, b, off, c, rfl, hlen, hix, hc, hb⟩ := hv.view Tryz.prog 22 3 Tryz.underlying22 intElem
  go_enter Tryz.func233, Tryz.ntmps233
  go_wp2_with fail
  refine calls_named ?_
  intro V hV
  have B : Below w.heap.size w V := by rw [hV]; exact bl2 _ _ _
  have K1 : Blk V w.heap.size 27 #[.int .i64 g, .slice a l.length c] := by rw [hV]; exact (Blk.new _ _ _).alloc _
  have K2 : Blk V (w.heap.size + 1) 27 #[.int .i64 0, .slice none 0 0] := by rw [hV]; have := Blk.new (w.alloc (.cells #[.int .i64 g, .slice a l.length c] 27)) 27 #[.int .i64 0, .slice none 0 0]; simpa using this
  clear hV
  refine (isFamI_any g l _ _ (hv.below B (Nat.le_refl _))).mono ?_
  rintro e w1 ⟨rfl, hb1⟩
  have K1 := K1.keep hb1
  have K2 := K2.keep hb1
  have B1 := B.after hb1 B.size
  have hv1 := hv.below B1 (Nat.le_refl _)
  clear B hb1
  have G1 := K1.cell
  have z1 := K1.lt
  have z2 := K2.lt
  cases hf : isFamB g l with
  | false =>
    have hN : shN g l = 0 := by unfold shN; rw [hf]; rfl
    have hL : shL g l = [] := by unfold shL; rw [hf]; rfl
    have HN := Lib.hid hN
    have HL := Lib.hid hL
    have HF := Lib.hid hf
    have G2 := K2.cell
    have F2 := K2.frozen
    clear hN hL
    go_wp2
    refine post_named ?_
    intro Wf hWf
    have K2f : Blk Wf (w.heap.size + 1) 27 #[.int .i64 0, .slice none 0 0] := by
      rw [hWf]
      have := (K2.set 0 (.int .i64 0)).set 1 (.slice none 0 0)
      simpa using this
    have Bf : Below w.heap.size w Wf := by rw [hWf]; exact Below.setCell (Below.setCell B1 (by first | omega | (simp; done) | (simp; omega)) _) (by first | omega | (simp; done) | (simp; omega)) _
    have Gf := K2f.cell
    clear hWf G1 G2 F2
    exact bodyPost_ret (v := .tuple #[.agg #[.int .i64 0, .slice none 0 0], .bool false]) (by simp [results, Tryz.results233, go_sem, Gf]) rfl ⟨none, 0, 0, by rw [HN.out, HF.out], by rw [HL.out]; exact OwnW.nil _ _ _, Bf⟩
  | true =>
    obtain ⟨h0, h6, hm⟩ := famOk64 hf
    have hl64 := fam_len64 hf
    have hN : shN g l = g := by unfold shN; rw [hf]; rfl
    have hL : shL g l = gatherL (shadL l) := by unfold shL; rw [hf]; rfl
    have HN := Lib.hid hN
    have HL := Lib.hid hL
    have HF := Lib.hid hf
    have HM := Lib.hid hm
    clear hN hL hf hm
    go_wp2_with fail
    go_loopw [4, 16] (fun out i wr => ∃ (k : Nat) (ad : Option Addr) (nn cp : Nat), k ≤ l.length ∧ out = .slice ad nn cp ∧ i = .int .i64 k ∧ OwnI 3 w1.heap.size wr (.slice ad nn cp) (shadL (l.take k)) ∧ Below w1.heap.size w1 wr)
      (fun _ i _ => l.length - (intOf i).toNat)
    case atStart => exact ⟨0, none, 0, 0, Nat.zero_le _, rfl, rfl, OwnI.nil _ _ _, Below.refl _ _⟩
    case round =>
      obtain ⟨k, ad, nn, cp, hk, rfl, rfl, ho, B⟩ := hrel
      obtain ⟨wo, rfl⟩ : ∃ wo : World, wo = wr := ⟨_, rfl⟩
      have HO := Lib.hid ho
      clear ho
      by_cases hlt : k < l.length
      · have hck := cells_below hc hb (B1.after B B1.size) (Nat.le_refl _) k hlt
        have hmk := HM.out k hlt
        have htk := shadL_take l k hlt
        have hlk : (shadL (l.take k)).length ≤ 6 * 64 := by have := shadL_len (l.take k); simp at this; omega
        obtain ⟨t, ht⟩ : ∃ t, t = l[k] := ⟨_, rfl⟩
        rw [← ht] at hck hmk htk
        obtain ⟨A, hA⟩ : ∃ A, A = shadL (l.take k) := ⟨_, rfl⟩
        rw [← hA] at HO hlk htk
        have HTK := Lib.hid htk
        have ht0 := hmk.1
        have ht1 := hmk.2
        clear ht hA htk hmk
        have yo := B.size
        go_wp2_with fail
        refine (elementsOf_i t _ ht0 ht1).mono ?_
        rintro e w4 ⟨p4, i4, q4, rfl, o4, hb4⟩
        have hi4 : i4 = (elL t).length := o4.ints.capLe.1
        have hap : Apart (.slice ad nn cp) (.slice p4 i4 q4) := Apart.of_lt HO.out.toW o4.toW (Nat.le_refl _)
        have hel6 := elL_len6 t
        have hebd := elL_bd6 t
        have hone : shadOne t = (elL t).map (lessEl t) := rfl
        have HONE := Lib.hid hone
        clear hone
        obtain ⟨E, hE⟩ : ∃ E, E = elL t := ⟨_, rfl⟩
        rw [← hE] at HONE o4 hi4 hel6 hebd
        subst hi4
        have HEB := Lib.hid hebd
        have AP := Lib.hid hap
        clear hE hebd hap
        obtain ⟨a4, ha4⟩ : ∃ a, a = p4 := ⟨_, rfl⟩
        obtain ⟨c4, hc4⟩ : ∃ a, a = q4 := ⟨_, rfl⟩
        subst ha4 hc4
        have y4 := hb4.size
        have HO4 := Lib.hid (HO.out.keep hb4)
        have B4 := B.after hb4 B.size
        go_wp2_with fail
        go_loopw [4, 23] (fun out i wi => ∃ (j : Nat) (ad : Option Addr) (nn cp : Nat), j ≤ E.length ∧ out = .slice ad nn cp ∧ i = .int .i64 j ∧ OwnI 3 w1.heap.size wi (.slice ad nn cp) (A ++ (E.take j).map (lessEl t)) ∧ OwnI 3 wo.heap.size wi (.slice a4 E.length c4) E ∧ Apart (.slice ad nn cp) (.slice a4 E.length c4) ∧ Below w1.heap.size w1 wi)
          (fun _ i _ => E.length - (intOf i).toNat)
        case atStart => exact ⟨0, _, _, _, Nat.zero_le _, rfl, rfl, by simpa using HO4.out, o4, AP.out, B4⟩
        case round =>
          obtain ⟨j, ad', nn', cp', hj, rfl, rfl, ho', oE, ap, Bi⟩ := hrel
          obtain ⟨wi, rfl⟩ : ∃ wi : World, wi = wr := ⟨_, rfl⟩
          have HO' := Lib.hid ho'
          have APi := Lib.hid ap
          clear ho' ap
          have yi := Bi.size
          by_cases hje : j < E.length
          · obtain ⟨a5, bj, offj, c5, he5, hlenj, hixj, hcj, _⟩ := oE.ints.view Tryz.prog 22 3 Tryz.underlying22 intElem
            simp only [Value.slice.injEq, true_and] at he5
            obtain ⟨rfl, rfl⟩ := he5
            have hejb := HEB.out _ (List.getElem_mem hje)
            have hcjj := hcj j hje
            obtain ⟨e, he⟩ : ∃ e : Nat, E[j] = (e : Int) := ⟨E[j].toNat, by omega⟩
            rw [he] at hcjj hejb
            have hstep : A ++ (E.take (j + 1)).map (lessEl t) = (A ++ (E.take j).map (lessEl t)) ++ [lessEl t e] := by
              rw [List.take_succ_eq_append_getElem hje, List.map_append, List.map_cons, List.map_nil, he, List.append_assoc]
            have hp := pow2_bd e hejb
            have hto : (2 : Int) ^ (e : Int).toNat = 2 ^ e := by simp
            rw [hto] at hp
            have hor : bits .andNot .i64 t (2 ^ e) = lessEl t e := by
              unfold lessEl; rw [hto]
              exact idif_is ht0 (by omega) (by omega) (by omega)
            have hbd := lessEl_bd t e ⟨ht0, ht1⟩
            obtain ⟨y, hy⟩ : ∃ y, y = lessEl t e := ⟨_, rfl⟩
            rw [← hy] at hor hbd hstep
            have HST := Lib.hid hstep
            have HOE := Lib.hid oE
            have hp1 := hp.1
            have hp2 := hp.2
            have he6 : e < 6 := by omega
            have hAl : (A ++ (E.take j).map (lessEl t)).length ≤ 400 := by simp; omega
            clear hcj hstep hy hto he hejb hp oE
            go_wp2_with (at_builtin; refine wpList_appendN1 rfl _ _ _ rfl 3 Tryz.underlying22 intElem w1.heap.size _ _ y wi.heap.size rfl rfl (cell_new wi #[.int .i64 y] 3 0 _ rfl) (HO'.out.alloc _) ⟨by omega, by omega⟩ (by omega) (by simp; omega) ?_; intro v' w6 hown hgr hnb; obtain ⟨av, nv, cv, rfl⟩ := hown.shape3)
            have B6 : Below w1.heap.size w1 w6 := (Bi.alloc Bi.size (.cells #[.int .i64 y] 3)).grown hgr (by simp; omega) (fun q hq => (HO'.out.lt q hq).1)
            have oE6 := ((HOE.out.alloc (.cells #[.int .i64 y] 3)).growA hgr APi.out)
            have ap6 := hnb.apart APi.out (fun k hk => by have := (HOE.out.lt k hk).2; simp; omega)
            go_roundw
            case rel => exact ⟨j + 1, av, nv, cv, by omega, rfl, by go_num, by rw [HST.out]; exact hown, oE6, ap6, B6⟩
            case measure => simp [intOf]; omega
          · have hAl : A ++ (E.take j).map (lessEl t) = shadL (l.take (k + 1)) := by rw [List.take_of_length_le (by omega), HTK.out, HONE.out]
            have HAL := Lib.hid hAl
            clear hAl
            go_wp2
            go_roundw
            case rel => exact ⟨k + 1, ad', nn', cp', by omega, rfl, by go_num, by rw [← HAL.out]; exact HO'.out, Bi⟩
            case measure => simp [intOf]; omega
      · have hkm : k = l.length := by omega
        subst hkm
        have hall : shadL (l.take l.length) = shadL l := by rw [List.take_length]
        have hO : OwnI 3 w1.heap.size wo (.slice ad nn cp) (shadL l) := by rw [← hall]; exact HO.out
        have hsl := shadL_len l
        obtain ⟨A, hA⟩ : ∃ A, A = shadL l := ⟨_, rfl⟩
        rw [← hA] at hO hsl
        have HO := Lib.hid hO
        have HA := Lib.hid hA
        have K1o := K1.keep B
        have K2o := K2.keep B
        have BB := B1.after B B1.size
        clear hall hO hA G1
        have G1 := K1o.cell
        have yB := BB.size
        go_wp2_with fail
        refine (gather_any g _ _ _ HO.out.ints (by omega)).mono ?_
        rintro e w7 ⟨p7, i7, q7, rfl, o7, hb7⟩
        have K2 := K2o.keep hb7
        have B7 := BB.after hb7 BB.size
        have G2 := K2.cell
        have F2 := K2.frozen
        have z2f := K2.lt
        have z7 := hb7.size
        clear G1 hb7
        go_wp2
        refine post_named ?_
        intro Wf hWf
        have K2f : Blk Wf (w.heap.size + 1) 27 #[.int .i64 g, .slice p7 i7 q7] := by
          rw [hWf]
          have := (K2.set 0 (.int .i64 g)).set 1 (.slice p7 i7 q7)
          simpa using this
        have zo := K2o.lt
        have Bf : Below w.heap.size w Wf := by rw [hWf]; exact Below.setCell (Below.setCell B7 (by first | omega | (simp; done) | (simp; omega)) _) (by first | omega | (simp; done) | (simp; omega)) _
        have of : OwnW 3 w.heap.size Wf (.slice p7 i7 q7) (gatherL A) := by rw [hWf]; exact ((o7.setBelow (by first | omega | (simp; done) | (simp; omega)) _).setBelow (by first | omega | (simp; done) | (simp; omega)) _).mono (by first | omega | (simp; done) | (simp; omega))
        have Gf := K2f.cell
        clear hWf G2 F2
        exact bodyPost_ret (v := .tuple #[.agg #[.int .i64 g, .slice p7 i7 q7], .bool true]) (by simp [results, Tryz.results233, go_sem, Gf]) rfl ⟨p7, i7, q7, by rw [HN.out, HF.out], by rw [HL.out, ← HA.out]; exact of, Bf⟩
end Go.Proofs.YtipejodijbjpcaaGreatDoor
end
