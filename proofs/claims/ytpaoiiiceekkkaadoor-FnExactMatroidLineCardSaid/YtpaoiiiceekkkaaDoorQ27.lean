/- The smallest transversal: both programs. Greedy covers, in plain words. -/
import Derived.Test.YtpaoiiiceekkkaaDoorQ26
section
namespace Go.Proofs.YtpaoiiiceekkkaaDoor
open Go.RowKit Go.G5

/-- the first of the smallest sets of a list, from best on -/
def lessL : List Int → Int → Int
  | [], b => b
  | s :: r, b => lessL r (if pop s.toNat < pop b.toNat then s else b)
def tnOk (g : Int) (l : List Int) : Bool := isFamB g l && !((blkL g l).length == 0)
def tnS (g : Int) (l : List Int) : Int := if tnOk g l then lessL (blkL g l) ((blkL g l).getD 0 0) else 0
def tnN (g : Int) (l : List Int) : Int := if tnOk g l then ((pop (tnS g l).toNat : Nat) : Int) else 0
theorem lessL_mem (S : List Int) : ∀ (r : List Int) (b : Int), (∀ x ∈ r, x ∈ S) → b ∈ S → lessL r b ∈ S
  | [], _, _, h => h
  | s :: r, b, h1, h2 => by
    rw [lessL]
    refine lessL_mem S r _ (fun x hx => h1 x (List.mem_cons_of_mem _ hx)) ?_
    split
    · exact h1 s (by simp)
    · exact h2
theorem lessL_at (l : List Int) (j : Nat) (h : j < l.length) (b : Int) : lessL (l.drop j) b = lessL (l.drop (j + 1)) (if pop (l[j]).toNat < pop b.toNat then l[j] else b) := by
  rw [List.drop_eq_getElem_cons h, lessL]
theorem lessL_first (l : List Int) (h : 0 < l.length) : lessL (l.drop 1) l[0] = lessL l l[0] := by
  have := lessL_at l 0 h l[0]
  rw [List.drop_zero] at this
  rw [this]
  simp
theorem tnS_bd (g : Int) (l : List Int) : 0 ≤ tnS g l ∧ tnS g l < 64 := by
  unfold tnS
  split
  · rename_i h
    unfold tnOk at h
    simp only [Bool.and_eq_true, Bool.not_eq_true', beq_eq_false_iff_ne] at h
    have hl : 0 < (blkL g l).length := by have := h.2; omega
    refine blkL_bd g l _ (lessL_mem (blkL g l) _ _ (fun x hx => hx) ?_)
    rw [List.getD_eq_getElem?_getD, List.getElem?_eq_getElem hl]
    simp
  · omega
theorem tnN_bd (g : Int) (l : List Int) : 0 ≤ tnN g l ∧ tnN g l ≤ 8 := by
  unfold tnN
  have h := tnS_bd g l
  split
  · have := pop_le (tnS g l).toNat (by omega)
    omega
  · omega
theorem size_i (x : Int) (w : World) (h0 : 0 ≤ x) (h1 : x < 64) : Calls Tryd.prog 128 #[.int .i64 x] w fun e w' => e = .returned (.int .i64 ((pop x.toNat : Nat) : Int)) ∧ w = w' := by
  obtain ⟨n, rfl⟩ := Int.eq_ofNat_of_zero_le h0
  exact sizeOf_any n w (by omega)
theorem size_s (x : Int) (w : World) (h0 : 0 ≤ x) (h1 : x < 64) : Calls Tryd.prog 117 #[.int .i64 x] w fun e w' => e = .returned (.int .i64 ((pop x.toNat : Nat) : Int)) ∧ w = w' := by
  obtain ⟨n, rfl⟩ := Int.eq_ofNat_of_zero_le h0
  exact l2Size_any n w (by omega)
set_option maxHeartbeats 2000000 in
set_option maxRecDepth 100000 in
theorem tnI_any (w : World) (g : Int) (v : Value) (l : List Int) (hv : Ints w v l) (hl : l.length ≤ 1048576) :
    Calls Tryd.prog 81 #[.agg #[.int .i64 g, v]] w fun e w' => e = .returned (.tuple #[.int .i64 (tnN g l), .int .i64 (tnS g l), .bool (tnOk g l)]) ∧ Below w.heap.size w w' := by
  have hv0 := hv
  obtain ⟨a, c, rfl⟩ := hv.shape
  have K0 := Blk.new w 32 #[.int .i64 g, .slice a l.length c]
  have hbl := blkL_len g l
  have hbb := blkL_bd g l
  obtain ⟨L, hLe⟩ : ∃ L, L = blkL g l := ⟨_, rfl⟩
  have hok : tnOk g l = (isFamB g l && !(L.length == 0)) := by unfold tnOk; rw [hLe]
  have hS : tnOk g l = true → tnS g l = lessL L (L.getD 0 0) := fun h => by unfold tnS; rw [if_pos h, hLe]
  have hN : tnOk g l = true → tnN g l = ((pop (tnS g l).toNat : Nat) : Int) := fun h => by unfold tnN; rw [if_pos h]
  have hS0 : tnOk g l = false → tnS g l = 0 ∧ tnN g l = 0 := fun h => by unfold tnN tnS; rw [h]; exact ⟨rfl, rfl⟩
  rw [← hLe] at hbl hbb
  have hbk := fun (W : World) (h : Ints W (.slice a l.length c) l) => blockerI_c W g _ l h hl
  simp only [← hLe] at hbk
  have HBK := Lib.hid hbk
  clear hbk hLe
  cases hf : isFamB g l with
  | false =>
    have h0 : tnOk g l = false := by rw [hok, hf]; rfl
    have hs0 := hS0 h0
    have H := Lib.hid (And.intro hs0.1 (And.intro hs0.2 h0))
    have HF := Lib.hid hf
    clear hok hS hN hS0 h0 hs0 hf
    go_enter Tryd.func81, Tryd.ntmps81
    go_wp2_with fail
    refine (HBK.out _ (hv0.alloc _)).mono ?_
    rintro e w1 ⟨p1, i1, q1, rfl, o1, b1⟩
    have hi1 : i1 = L.length := o1.ints.capLe.1
    subst hi1
    have B1 : Below w.heap.size w w1 := (bl1 _ _).after b1 (by simp)
    have K1 := Blk.new w1 32 #[.int .i64 (blkN g l), .slice p1 L.length q1]
    have B2 := B1.alloc B1.size (.cells #[.int .i64 (blkN g l), .slice p1 L.length q1] 32)
    have hI := o1.ints.alloc (.cells #[.int .i64 (blkN g l), .slice p1 L.length q1] 32)
    rw [HF.out]
    go_wp2
    exact bodyPost_ret (v := .tuple #[.int .i64 0, .int .i64 0, .bool false]) (by simp [results, Tryd.results81, go_sem]) rfl ⟨by rw [H.out.1, H.out.2.1, H.out.2.2], B2⟩
  | true =>
    by_cases hz : L.length = 0
    · have h0 : tnOk g l = false := by rw [hok, hf, hz]; rfl
      have hs0 := hS0 h0
      have H := Lib.hid (And.intro hs0.1 (And.intro hs0.2 h0))
      have HF := Lib.hid hf
      have hzb : ((L.length : Int) == 0) = true := by simp [hz]
      clear hok hS hN hS0 h0 hs0 hf hz
      go_enter Tryd.func81, Tryd.ntmps81
      go_wp2_with fail
      refine (HBK.out _ (hv0.alloc _)).mono ?_
      rintro e w1 ⟨p1, i1, q1, rfl, o1, b1⟩
      have hi1 : i1 = L.length := o1.ints.capLe.1
      subst hi1
      have B1 : Below w.heap.size w w1 := (bl1 _ _).after b1 (by simp)
      have K1 := Blk.new w1 32 #[.int .i64 (blkN g l), .slice p1 L.length q1]
      have B2 := B1.alloc B1.size (.cells #[.int .i64 (blkN g l), .slice p1 L.length q1] 32)
      have hI := o1.ints.alloc (.cells #[.int .i64 (blkN g l), .slice p1 L.length q1] 32)
      have G := K1.cell
      rw [HF.out]
      go_wp2
      exact bodyPost_ret (v := .tuple #[.int .i64 0, .int .i64 0, .bool false]) (by simp [results, Tryd.results81, go_sem]) rfl ⟨by rw [H.out.1, H.out.2.1, H.out.2.2], B2⟩
    · have h1 : tnOk g l = true := by rw [hok, hf]; simp [hz]
      have hpos : 0 < L.length := by omega
      have hs := hS h1
      have hn := hN h1
      rw [List.getD_eq_getElem?_getD, List.getElem?_eq_getElem hpos, Option.getD_some] at hs
      have H := Lib.hid (And.intro hs (And.intro hn h1))
      have HF := Lib.hid hf
      have hzb : ((L.length : Int) == 0) = false := by rw [beq_eq_false_iff_ne]; omega
      have HBB := Lib.hid hbb
      clear hok hS hN hS0 h1 hs hn hf hz hbb
      go_enter Tryd.func81, Tryd.ntmps81
      go_wp2_with fail
      refine (HBK.out _ (hv0.alloc _)).mono ?_
      rintro e w1 ⟨p1, i1, q1, rfl, o1, b1⟩
      have hi1 : i1 = L.length := o1.ints.capLe.1
      subst hi1
      have B1 : Below w.heap.size w w1 := (bl1 _ _).after b1 (by simp)
      have K1 := Blk.new w1 32 #[.int .i64 (blkN g l), .slice p1 L.length q1]
      have B2 := B1.alloc B1.size (.cells #[.int .i64 (blkN g l), .slice p1 L.length q1] 32)
      have hI := o1.ints.alloc (.cells #[.int .i64 (blkN g l), .slice p1 L.length q1] 32)
      have G := K1.cell
      rw [HF.out]
      obtain ⟨pv, b, off, cv, hve, hlen, hix, hc, hb⟩ := hI.view Tryd.prog 22 3 Tryd.underlying22 intElem
      injection hve with e1 _ e3
      subst e1 e3
      have hc0 := hc 0 hpos
      have hix0 : ∀ W : World, (Instr.indexAt 22 (.slice p1 L.length q1) (.int .i64 0)).run Tryd.prog W = .ok (.pointer (some ⟨b, off, none⟩)) W := fun W => hix W 0 hpos
      rw [Nat.add_zero] at hc0
      have HC := Lib.hid hc
      have HIX := Lib.hid hix
      clear hc hix hlen
      have hb0' := HBB.out _ (List.getElem_mem hpos)
      have hb00 := hb0'.1
      have hb01 := hb0'.2
      clear hb0'
      go_wp2_with fail
      go_loopw [7, 30] (fun bv iv wr => ∃ (j : Nat) (x : Int), j ≤ L.length ∧ iv = .int .i64 j ∧ bv = .int .i64 x ∧ 0 ≤ x ∧ x < 64 ∧ lessL (L.drop j) x = tnS g l ∧ wr = w1.alloc (.cells #[.int .i64 (blkN g l), .slice p1 L.length q1] 32)) (fun _ iv _ => L.length - (intOf iv).toNat)
      case atStart => exact ⟨0, L[0], Nat.zero_le _, rfl, rfl, hb00, hb01, by rw [List.drop_zero, H.out.1], rfl⟩
      case round =>
        obtain ⟨j, x, hj, rfl, rfl, hx0, hx1, hles, rfl⟩ := hrel
        by_cases hlt : j < L.length
        · have hlt2 : (j : Int) < (L.length : Int) := by omega
          have hcj := HC.out j hlt
          have hij := fun W => HIX.out W j hlt
          have hyb := HBB.out _ (List.getElem_mem hlt)
          have hat := lessL_at L j hlt x
          rw [hles] at hat
          obtain ⟨y, hy⟩ : ∃ y, y = L[j] := ⟨_, rfl⟩
          rw [← hy] at hcj hyb hat
          have hy0 := hyb.1
          have hy1 := hyb.2
          clear hy hyb hles
          by_cases hp : pop y.toNat < pop x.toNat
          · have hp2 : ((pop y.toNat : Nat) : Int) < ((pop x.toNat : Nat) : Int) := by exact_mod_cast hp
            rw [if_pos hp] at hat
            have HAT := Lib.hid hat
            clear hat hp
            go_wp2_with (go_at_call 128; refine (size_i _ _ ?_ ?_).mono ?_; assumption; assumption; rintro e w2 ⟨rfl, rfl⟩)
            go_roundw
            case rel => exact ⟨j + 1, y, by omega, by go_num, rfl, hy0, hy1, HAT.out.symm, trivial⟩
            case measure => simp [intOf]; omega
          · have hp2 : ¬ ((pop y.toNat : Nat) : Int) < ((pop x.toNat : Nat) : Int) := by exact_mod_cast hp
            rw [if_neg hp] at hat
            have HAT := Lib.hid hat
            clear hat hp
            go_wp2_with (go_at_call 128; refine (size_i _ _ ?_ ?_).mono ?_; assumption; assumption; rintro e w2 ⟨rfl, rfl⟩)
            go_roundw
            case rel => exact ⟨j + 1, x, by omega, by go_num, rfl, hx0, hx1, HAT.out.symm, trivial⟩
            case measure => simp [intOf]; omega
        · have hlt2 : ¬ (j : Int) < (L.length : Int) := by omega
          have hfin : x = tnS g l := by rw [← hles, show j = L.length by omega, List.drop_length]; rfl
          have HFI := Lib.hid hfin
          clear hles hfin
          go_wp2_with (go_at_call 128; refine (size_i _ _ ?_ ?_).mono ?_; assumption; assumption; rintro e w2 ⟨rfl, rfl⟩)
          exact bodyPost_ret (v := .tuple #[.int .i64 ((pop x.toNat : Nat) : Int), .int .i64 x, .bool true]) (by simp [results, Tryd.results81, go_sem]) rfl ⟨by rw [H.out.2.1, H.out.2.2, HFI.out], B2⟩
set_option maxHeartbeats 2000000 in
set_option maxRecDepth 100000 in
theorem tnS_any (w : World) (g : Int) (v : Value) (l : List Int) (hv : Ints w v l) (hl : l.length ≤ 1048576) :
    Calls Tryd.prog 74 #[.agg #[.int .i64 g, v]] w fun e w' => e = .returned (.tuple #[.int .i64 (tnN g l), .int .i64 (tnS g l), .bool (tnOk g l)]) ∧ Below w.heap.size w w' := by
  have hv0 := hv
  obtain ⟨a, c, rfl⟩ := hv.shape
  have K0 := Blk.new w 32 #[.int .i64 g, .slice a l.length c]
  have hbl := blkL_len g l
  have hbb := blkL_bd g l
  obtain ⟨L, hLe⟩ : ∃ L, L = blkL g l := ⟨_, rfl⟩
  have hok : tnOk g l = (isFamB g l && !(L.length == 0)) := by unfold tnOk; rw [hLe]
  have hS : tnOk g l = true → tnS g l = lessL L (L.getD 0 0) := fun h => by unfold tnS; rw [if_pos h, hLe]
  have hN : tnOk g l = true → tnN g l = ((pop (tnS g l).toNat : Nat) : Int) := fun h => by unfold tnN; rw [if_pos h]
  have hS0 : tnOk g l = false → tnS g l = 0 ∧ tnN g l = 0 := fun h => by unfold tnN tnS; rw [h]; exact ⟨rfl, rfl⟩
  rw [← hLe] at hbl hbb
  have hbk := fun (W : World) (h : Ints W (.slice a l.length c) l) => blockerS_c W g _ l h hl
  simp only [← hLe] at hbk
  have HBK := Lib.hid hbk
  clear hbk hLe
  cases hf : isFamB g l with
  | false =>
    have h0 : tnOk g l = false := by rw [hok, hf]; rfl
    have hs0 := hS0 h0
    have H := Lib.hid (And.intro hs0.1 (And.intro hs0.2 h0))
    have HF := Lib.hid hf
    clear hok hS hN hS0 h0 hs0 hf
    go_enter Tryd.func74, Tryd.ntmps74
    go_wp2_with fail
    refine (HBK.out _ (hv0.alloc _)).mono ?_
    rintro e w1 ⟨p1, i1, q1, rfl, o1, b1⟩
    have hi1 : i1 = L.length := o1.ints.capLe.1
    subst hi1
    have B1 : Below w.heap.size w w1 := (bl1 _ _).after b1 (by simp)
    have K1 := Blk.new w1 32 #[.int .i64 (blkN g l), .slice p1 L.length q1]
    have B2 := B1.alloc B1.size (.cells #[.int .i64 (blkN g l), .slice p1 L.length q1] 32)
    have hI := o1.ints.alloc (.cells #[.int .i64 (blkN g l), .slice p1 L.length q1] 32)
    rw [HF.out]
    go_wp2
    exact bodyPost_ret (v := .tuple #[.int .i64 0, .int .i64 0, .bool false]) (by simp [results, Tryd.results74, go_sem]) rfl ⟨by rw [H.out.1, H.out.2.1, H.out.2.2], B2⟩
  | true =>
    by_cases hz : L.length = 0
    · have h0 : tnOk g l = false := by rw [hok, hf, hz]; rfl
      have hs0 := hS0 h0
      have H := Lib.hid (And.intro hs0.1 (And.intro hs0.2 h0))
      have HF := Lib.hid hf
      have hzb : ((L.length : Int) == 0) = true := by simp [hz]
      clear hok hS hN hS0 h0 hs0 hf hz
      go_enter Tryd.func74, Tryd.ntmps74
      go_wp2_with fail
      refine (HBK.out _ (hv0.alloc _)).mono ?_
      rintro e w1 ⟨p1, i1, q1, rfl, o1, b1⟩
      have hi1 : i1 = L.length := o1.ints.capLe.1
      subst hi1
      have B1 : Below w.heap.size w w1 := (bl1 _ _).after b1 (by simp)
      have K1 := Blk.new w1 32 #[.int .i64 (blkN g l), .slice p1 L.length q1]
      have B2 := B1.alloc B1.size (.cells #[.int .i64 (blkN g l), .slice p1 L.length q1] 32)
      have hI := o1.ints.alloc (.cells #[.int .i64 (blkN g l), .slice p1 L.length q1] 32)
      have G := K1.cell
      rw [HF.out]
      go_wp2
      exact bodyPost_ret (v := .tuple #[.int .i64 0, .int .i64 0, .bool false]) (by simp [results, Tryd.results74, go_sem]) rfl ⟨by rw [H.out.1, H.out.2.1, H.out.2.2], B2⟩
    · have h1 : tnOk g l = true := by rw [hok, hf]; simp [hz]
      have hpos : 0 < L.length := by omega
      have hs := hS h1
      have hn := hN h1
      rw [List.getD_eq_getElem?_getD, List.getElem?_eq_getElem hpos, Option.getD_some] at hs
      have H := Lib.hid (And.intro hs (And.intro hn h1))
      have HF := Lib.hid hf
      have hzb : ((L.length : Int) == 0) = false := by rw [beq_eq_false_iff_ne]; omega
      have HBB := Lib.hid hbb
      clear hok hS hN hS0 h1 hs hn hf hz hbb
      go_enter Tryd.func74, Tryd.ntmps74
      go_wp2_with fail
      refine (HBK.out _ (hv0.alloc _)).mono ?_
      rintro e w1 ⟨p1, i1, q1, rfl, o1, b1⟩
      have hi1 : i1 = L.length := o1.ints.capLe.1
      subst hi1
      have B1 : Below w.heap.size w w1 := (bl1 _ _).after b1 (by simp)
      have K1 := Blk.new w1 32 #[.int .i64 (blkN g l), .slice p1 L.length q1]
      have B2 := B1.alloc B1.size (.cells #[.int .i64 (blkN g l), .slice p1 L.length q1] 32)
      have hI := o1.ints.alloc (.cells #[.int .i64 (blkN g l), .slice p1 L.length q1] 32)
      have G := K1.cell
      rw [HF.out]
      obtain ⟨pv, b, off, cv, hve, hlen, hix, hc, hb⟩ := hI.view Tryd.prog 22 3 Tryd.underlying22 intElem
      injection hve with e1 _ e3
      subst e1 e3
      have hc0 := hc 0 hpos
      have hix0 : ∀ W : World, (Instr.indexAt 22 (.slice p1 L.length q1) (.int .i64 0)).run Tryd.prog W = .ok (.pointer (some ⟨b, off, none⟩)) W := fun W => hix W 0 hpos
      rw [Nat.add_zero] at hc0
      have HC := Lib.hid hc
      have HIX := Lib.hid hix
      clear hc hix hlen
      have hb0' := HBB.out _ (List.getElem_mem hpos)
      have hb00 := hb0'.1
      have hb01 := hb0'.2
      clear hb0'
      go_wp2_with fail
      go_loopw [7, 8] (fun bv iv wr => ∃ (j : Nat) (x : Int), 1 ≤ j ∧ j ≤ L.length ∧ iv = .int .i64 j ∧ bv = .int .i64 x ∧ 0 ≤ x ∧ x < 64 ∧ lessL (L.drop j) x = tnS g l ∧ wr = w1.alloc (.cells #[.int .i64 (blkN g l), .slice p1 L.length q1] 32)) (fun _ iv _ => L.length - (intOf iv).toNat)
      case atStart => exact ⟨1, L[0], Nat.le_refl _, hpos, rfl, rfl, hb00, hb01, by rw [lessL_first L hpos, H.out.1], rfl⟩
      case round =>
        obtain ⟨j, x, h1j, hj, rfl, rfl, hx0, hx1, hles, rfl⟩ := hrel
        by_cases hlt : j < L.length
        · have hlt2 : (j : Int) < (L.length : Int) := by omega
          have hcj := HC.out j hlt
          have hij := fun W => HIX.out W j hlt
          have hyb := HBB.out _ (List.getElem_mem hlt)
          have hat := lessL_at L j hlt x
          rw [hles] at hat
          obtain ⟨y, hy⟩ : ∃ y, y = L[j] := ⟨_, rfl⟩
          rw [← hy] at hcj hyb hat
          have hy0 := hyb.1
          have hy1 := hyb.2
          clear hy hyb hles
          by_cases hp : pop y.toNat < pop x.toNat
          · have hp2 : ((pop y.toNat : Nat) : Int) < ((pop x.toNat : Nat) : Int) := by exact_mod_cast hp
            rw [if_pos hp] at hat
            have HAT := Lib.hid hat
            clear hat hp
            go_wp2_with (go_at_call 117; refine (size_s _ _ ?_ ?_).mono ?_; assumption; assumption; rintro e w2 ⟨rfl, rfl⟩)
            go_roundw
            case rel => exact ⟨j + 1, y, by omega, by omega, by go_num, rfl, hy0, hy1, HAT.out.symm, trivial⟩
            case measure => simp [intOf]; omega
          · have hp2 : ¬ ((pop y.toNat : Nat) : Int) < ((pop x.toNat : Nat) : Int) := by exact_mod_cast hp
            rw [if_neg hp] at hat
            have HAT := Lib.hid hat
            clear hat hp
            go_wp2_with (go_at_call 117; refine (size_s _ _ ?_ ?_).mono ?_; assumption; assumption; rintro e w2 ⟨rfl, rfl⟩)
            go_roundw
            case rel => exact ⟨j + 1, x, by omega, by omega, by go_num, rfl, hx0, hx1, HAT.out.symm, trivial⟩
            case measure => simp [intOf]; omega
        · have hlt2 : ¬ (j : Int) < (L.length : Int) := by omega
          have hfin : x = tnS g l := by rw [← hles, show j = L.length by omega, List.drop_length]; rfl
          have HFI := Lib.hid hfin
          clear hles hfin
          go_wp2_with (go_at_call 117; refine (size_s _ _ ?_ ?_).mono ?_; assumption; assumption; rintro e w2 ⟨rfl, rfl⟩)
          exact bodyPost_ret (v := .tuple #[.int .i64 ((pop x.toNat : Nat) : Int), .int .i64 x, .bool true]) (by simp [results, Tryd.results74, go_sem]) rfl ⟨by rw [H.out.2.1, H.out.2.2, HFI.out], B2⟩
end Go.Proofs.YtpaoiiiceekkkaaDoor
end
section
namespace Go.Proofs.YtpaoiiiceekkkaaDoor
open Go.RowKit Go.G5

def betterF (left : Int) (b s : Int) : Int := if ipop (iand b left) < ipop (iand s left) then s else b
def bestOf (l : List Int) (left : Int) : Int := l.foldl (betterF left) 0
def greedyRun (l : List Int) : Nat → Int → Option (List Int)
  | 0, left => if left = 0 then some [] else none
  | n + 1, left => if left = 0 then some [] else if iand (bestOf l left) left = 0 then none else (greedyRun l n (idif left (bestOf l left))).map (bestOf l left :: ·)
def greedyOf (g : Int) (l : List Int) : Option (List Int) := if isFamB g l then greedyRun l 64 (2 ^ g.toNat - 1) else none
def greedyL (g : Int) (l : List Int) : List Int := (greedyOf g l).getD []
def greedyB (g : Int) (l : List Int) : Bool := (greedyOf g l).isSome

theorem best_mem (left : Int) (l : List Int) : ∀ z, l.foldl (betterF left) z = z ∨ l.foldl (betterF left) z ∈ l := by
  induction l with
  | nil => intro z; exact .inl rfl
  | cons a l ih =>
    intro z
    simp only [List.foldl_cons]
    rcases ih (betterF left z a) with h | h
    · rw [h]; unfold betterF; split
      · right; simp
      · left; rfl
    · right; simp [h]
theorem best_max (left : Int) (l : List Int) : ∀ z, ipop (iand z left) ≤ ipop (iand (l.foldl (betterF left) z) left) ∧ ∀ s ∈ l, ipop (iand s left) ≤ ipop (iand (l.foldl (betterF left) z) left) := by
  induction l with
  | nil => intro z; exact ⟨Int.le_refl _, by simp⟩
  | cons a l ih =>
    intro z
    simp only [List.foldl_cons]
    obtain ⟨h1, h2⟩ := ih (betterF left z a)
    have h3 : ipop (iand z left) ≤ ipop (iand (betterF left z a) left) ∧ ipop (iand a left) ≤ ipop (iand (betterF left z a) left) := by
      unfold betterF; split <;> omega
    refine ⟨by omega, fun s hs => ?_⟩
    rcases List.mem_cons.1 hs with rfl | hs
    · omega
    · exact h2 s hs
theorem best_bd (l : List Int) (left : Int) (h : ∀ s ∈ l, 0 ≤ s ∧ s < 64) : 0 ≤ bestOf l left ∧ bestOf l left < 64 := by
  rcases best_mem left l 0 with h1 | h1
  · unfold bestOf; rw [h1]; omega
  · exact h _ h1

theorem pop_pos : ∀ n, n < 64 → 0 < n → 0 < pop n := by decide +kernel
theorem ipop_zero {a : Int} (h0 : 0 ≤ a) (h1 : a < 64) (h : ipop a ≤ 0) : a = 0 := by
  by_cases hz : a = 0
  · exact hz
  · have := pop_pos a.toNat (by omega) (by omega)
    unfold ipop at h; omega
theorem union_and (c : Nat) (l : List Int) (h : ∀ s ∈ l, s.toNat &&& c = 0) : ∀ z : Int, z.toNat &&& c = 0 → (l.foldl ior z).toNat &&& c = 0 := by
  induction l with
  | nil => intro z hz; exact hz
  | cons a l ih =>
    intro z hz
    simp only [List.foldl_cons]
    refine ih (fun s hs => h s (by simp [hs])) _ ?_
    have ha := h a (by simp)
    unfold ior
    rw [Int.toNat_natCast, Nat.and_or_distrib_right, hz, ha]; rfl
/-- where the sets have all elements, one has an element that is left -/
theorem some_meets (g : Nat) (l : List Int) (cur : Int) (h0 : 0 < cur) (h1 : cur < 2 ^ g) (hu : unionL l = 2 ^ g - 1) : ∃ s ∈ l, iand s cur ≠ 0 := by
  refine Classical.byContradiction fun hno => ?_
  have hall : ∀ s ∈ l, s.toNat &&& cur.toNat = 0 := fun s hs => by
    refine Classical.byContradiction fun hne => hno ⟨s, hs, ?_⟩
    unfold iand; omega
  have hz := union_and cur.toNat l hall 0 (by simp)
  have hu' : (l.foldl ior 0) = 2 ^ g - 1 := hu
  have hpow : ((2 : Int) ^ g - 1).toNat = 2 ^ g - 1 := by
    have : ((2 : Int) ^ g) = ((2 ^ g : Nat) : Int) := by push_cast; rfl
    rw [this]; omega
  rw [hu', hpow, Nat.and_comm, Nat.and_two_pow_sub_one_eq_mod] at hz
  have hlt : cur.toNat < 2 ^ g := by
    have : ((2 : Int) ^ g) = ((2 ^ g : Nat) : Int) := by push_cast; rfl
    omega
  rw [Nat.mod_eq_of_lt hlt] at hz
  omega
theorem best_meets (g : Nat) (l : List Int) (cur : Int) (hl : ∀ s ∈ l, 0 ≤ s ∧ s < 64) (h0 : 0 < cur) (h1 : cur < 2 ^ g) (hu : unionL l = 2 ^ g - 1) : iand (bestOf l cur) cur ≠ 0 := by
  obtain ⟨s, hs, hne⟩ := some_meets g l cur h0 h1 hu
  have hm := (best_max cur l 0).2 s hs
  intro hz
  have hb : ipop (iand (bestOf l cur) cur) = 0 := by rw [hz]; decide
  have hsb := hl s hs
  have hib := iand_bd s cur 64 hsb.1 hsb.2
  exact hne (ipop_zero hib.1 hib.2 (by unfold bestOf at hb; omega))
theorem idif_lt {a b : Int} (h0 : 0 ≤ a) (hne : iand b a ≠ 0) : idif a b < a := by
  unfold iand at hne
  unfold idif ndiff
  have hc : a.toNat &&& b.toNat = b.toNat &&& a.toNat := Nat.and_comm _ _
  have := @Nat.and_le_left a.toNat b.toNat
  omega
/-- enough rounds are enough -/
theorem greedy_fuel (l : List Int) : ∀ (n m : Nat) (cur : Int), 0 ≤ cur → cur ≤ n → n ≤ m → greedyRun l n cur = greedyRun l m cur := by
  intro n
  induction n with
  | zero =>
    intro m cur h0 h1 _
    have : cur = 0 := by omega
    subst this
    cases m <;> simp [greedyRun]
  | succ n ih =>
    intro m cur h0 h1 hm
    obtain ⟨m, rfl⟩ : ∃ k, m = k + 1 := ⟨m - 1, by omega⟩
    simp only [greedyRun]
    split
    · rfl
    · split
      · rfl
      · rename_i hne
        have hlt := idif_lt h0 hne
        have hge : 0 ≤ idif cur (bestOf l cur) := by unfold idif; omega
        rw [ih m _ hge (by omega) (by omega)]
/-- what greed covers the sets have -/
theorem or_ndiff : ∀ a, a < 64 → ∀ b, b < 64 → ndiff a b ||| b = a ||| b := by decide +kernel
theorem union_has (l : List Int) (h : ∀ s ∈ l, 0 ≤ s) : ∀ (z : Int), (∀ s ∈ l, s.toNat ||| (l.foldl ior z).toNat = (l.foldl ior z).toNat) ∧ z.toNat ||| (l.foldl ior z).toNat = (l.foldl ior z).toNat := by
  induction l with
  | nil => intro z; exact ⟨by simp, by simp⟩
  | cons a l ih =>
    intro z
    simp only [List.foldl_cons]
    obtain ⟨h1, h2⟩ := ih (fun s hs => h s (by simp [hs])) (ior z a)
    generalize (l.foldl ior (ior z a)).toNat = U at *
    have hz : (ior z a).toNat = z.toNat ||| a.toNat := by unfold ior; rw [Int.toNat_natCast]
    rw [hz] at h2
    refine ⟨fun s hs => ?_, ?_⟩
    · rcases List.mem_cons.1 hs with rfl | hs
      · calc s.toNat ||| U = s.toNat ||| (z.toNat ||| s.toNat ||| U) := by rw [h2]
          _ = z.toNat ||| s.toNat ||| U := by rw [← Nat.or_assoc, ← Nat.or_assoc, Nat.or_comm s.toNat z.toNat, Nat.or_assoc z.toNat, Nat.or_self]
          _ = U := h2
      · exact h1 s hs
    · calc z.toNat ||| U = z.toNat ||| (z.toNat ||| a.toNat ||| U) := by rw [h2]
        _ = z.toNat ||| a.toNat ||| U := by rw [← Nat.or_assoc, ← Nat.or_assoc, Nat.or_self]
        _ = U := h2
theorem greedy_in (l : List Int) (hl : ∀ s ∈ l, 0 ≤ s ∧ s < 64) : ∀ n (cur : Int) L, 0 ≤ cur → cur < 64 → greedyRun l n cur = some L → cur.toNat ||| (unionL l).toNat = (unionL l).toNat := by
  intro n
  induction n with
  | zero =>
    intro cur L h0 h1 h
    simp only [greedyRun] at h
    split at h
    · rename_i hz; subst hz; simp
    · cases h
  | succ n ih =>
    intro cur L h0 h1 h
    simp only [greedyRun] at h
    split at h
    · rename_i hz; subst hz; simp
    · split at h
      · cases h
      · rename_i hne
        cases hr : greedyRun l n (idif cur (bestOf l cur)) with
        | none => rw [hr] at h; cases h
        | some L' =>
          have hb := best_bd l cur hl
          have hd := idif_bd cur (bestOf l cur) 64 h0 h1
          have hi := ih _ _ hd.1 hd.2 hr
          have hmem : bestOf l cur ∈ l := by
            rcases best_mem cur l 0 with h1 | h1
            · exfalso
              apply hne
              have : bestOf l cur = 0 := h1
              rw [this]; unfold iand; simp
            · exact h1
          have hbU := (union_has l (fun s hs => (hl s hs).1) 0).1 _ hmem
          have ho := or_ndiff cur.toNat (by omega) (bestOf l cur).toNat (by omega)
          have e : (idif cur (bestOf l cur)).toNat = ndiff cur.toNat (bestOf l cur).toNat := by unfold idif; rw [Int.toNat_natCast]
          rw [e] at hi
          have hU : (unionL l).toNat = (l.foldl ior 0).toNat := rfl
          rw [← hU] at hbU
          generalize (unionL l).toNat = U at *
          calc cur.toNat ||| U = cur.toNat ||| ((bestOf l cur).toNat ||| U) := by rw [hbU]
            _ = (cur.toNat ||| (bestOf l cur).toNat) ||| U := by rw [Nat.or_assoc]
            _ = (ndiff cur.toNat (bestOf l cur).toNat ||| (bestOf l cur).toNat) ||| U := by rw [ho]
            _ = ndiff cur.toNat (bestOf l cur).toNat ||| ((bestOf l cur).toNat ||| U) := by rw [Nat.or_assoc]
            _ = U := by rw [hbU, hi]
theorem greedy_none {g : Int} {l : List Int} (hf : isFamB g l = true) (hu : unionL l ≠ 2 ^ g.toNat - 1) : greedyOf g l = none := by
  unfold greedyOf
  rw [if_pos hf]
  obtain ⟨h0, h6, hs, _⟩ := famOk hf
  have hm := fam_mem hf
  have hp := pow_le64 h0 h6
  have hp1 := (two_pow g.toNat 6 (by omega)).2
  cases hr : greedyRun l 64 (2 ^ g.toNat - 1) with
  | none => rfl
  | some L =>
    exfalso
    apply hu
    have h1 := greedy_in l hm 64 _ L (by omega) (by omega) hr
    have h2 := union_bd g.toNat l hs 0 (by omega) (by omega)
    have h3 := @Nat.left_le_or ((2 : Int) ^ g.toNat - 1).toNat (unionL l).toNat
    have h4 : unionL l = l.foldl ior 0 := rfl
    rw [h4] at h1 h3 ⊢
    omega
end Go.Proofs.YtpaoiiiceekkkaaDoor
end
