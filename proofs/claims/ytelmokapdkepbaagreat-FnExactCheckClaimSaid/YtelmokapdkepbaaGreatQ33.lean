/- The checks of claims: dual vectors, bases, level sets, best bases, common sets, indices: the second program. The checks of claims: level sets: the second program. -/
import Derived.Test.YtelmokapdkepbaaGreatQ32
section
namespace Go.Proofs.YtelmokapdkepbaaGreat
open Go.RowKit Go.G5

theorem inB_set (N : Nat) (s : Int) : inB s 0 (2 ^ N - 1) = isSet N s := by
  unfold inB isSet
  congr 1
  rw [Bool.eq_iff_iff, decide_eq_true_eq, decide_eq_true_eq]
  omega
set_option maxHeartbeats 1000000 in
set_option maxRecDepth 100000 in
theorem l5InS_any (w : World) (n : Int) (v : Value) (l : List Int) (hv : Ints w v l) (s : Int) :
    Calls Tryz.prog 13 #[.agg #[.int .i64 n, v], .int .i64 s] w fun e w' => e = .returned (.bool (isFunB n l && isSet n.toNat s)) ∧ Below w.heap.size w w' := by
  obtain ⟨a, c, rfl⟩ := hv.shape
  have K0 := Blk.new w 31 #[.int .i64 n, .slice a l.length c]
  cases hf : isFunB n l with
  | false =>
    have HF := Lib.hid hf
    clear hf
    go_enter Tryz.func13, Tryz.ntmps13
    go_wp2_with fail
    refine (isFunS_any n l _ _ (hv.alloc _)).mono ?_
    rintro e w1 ⟨rfl, b1⟩
    rw [HF.out]
    go_wp2
    go_ret
    exact ⟨rfl, (bl1 _ _).after b1 (by simp)⟩
  | true =>
    obtain ⟨N, rfl, hN, hq1, hq2, hq3⟩ := fun_nat hf
    have HF := Lib.hid hf
    have hfu := fun W => l2Full_any N W (by omega)
    have hin := fun W => l1In_any s 0 (2 ^ N - 1) W
    simp only [inB_set] at hin
    have HFU := Lib.hid hfu
    have HIN := Lib.hid hin
    clear hf hfu hin hq1 hq2 hq3
    go_enter Tryz.func13, Tryz.ntmps13
    go_wp2_with fail
    refine (isFunS_any _ l _ _ (hv.alloc _)).mono ?_
    rintro e w1 ⟨rfl, b1⟩
    rw [HF.out]
    have G := (K0.keep b1).cell
    go_wp2_with (first | (go_at_call 15; refine (HFU.out _).mono ?_; rintro e w' ⟨rfl, rfl⟩) | (go_at_call 17; refine (HIN.out _).mono ?_; rintro e w' ⟨rfl, rfl⟩))
    go_ret
    exact ⟨by simp, (bl1 _ _).after b1 (by simp)⟩

theorem sumV_bd (x : List Int) (h : ∀ k, (hk : k < x.length) → -5000 ≤ x[k] ∧ x[k] ≤ 5000) : ∀ k, k ≤ x.length → -5000 * (k : Int) ≤ sumV x k ∧ sumV x k ≤ 5000 * (k : Int) := by
  intro k
  induction k with
  | zero => intro _; simp [sumV]
  | succ k ih =>
    intro hk
    have h1 := ih (by omega)
    have h2 := h k (by omega)
    rw [sumV, getD_at x k (by omega)]
    omega
set_option maxHeartbeats 1000000 in
set_option maxRecDepth 100000 in
theorem dualVS_any (w : World) (n : Int) (v : Value) (l : List Int) (hv : Ints w v l) (u : Value) (x : List Int) (hu : Ints w u x) :
    Calls Tryz.prog 12 #[.agg #[.int .i64 n, v], u] w fun e w' => e = .returned (.bool (dualV n l x)) ∧ Below w.heap.size w w' := by
  obtain ⟨a, c, rfl⟩ := hv.shape
  have hu0 := hu
  obtain ⟨au, b, off, cu, rfl, hlen, hix, hc, hb⟩ := hu.view Tryz.prog 22 3 Tryz.underlying22 intElem
  have K0 := Blk.new w 31 #[.int .i64 n, .slice a l.length c]
  cases hbl : belB n l x with
  | false =>
    have hx : dualV n l x = false := by unfold dualV; rw [hbl]; rfl
    have HX := Lib.hid hx
    have HB := Lib.hid hbl
    clear hx hbl
    go_enter Tryz.func12, Tryz.ntmps12
    go_wp2_with fail
    refine (isBelowS_any _ n _ l (hv.alloc _) _ x (hu0.alloc _)).mono ?_
    rintro e w1 ⟨rfl, b1⟩
    rw [HB.out]
    go_wp2
    go_ret
    exact ⟨ret_bool HX.out.symm, (bl1 _ _).after b1 (by simp)⟩
  | true =>
    obtain ⟨hf, hlg⟩ := bel_parts hbl
    obtain ⟨N, rfl, hN, hll, hq2, hbd⟩ := fun_nat hf
    obtain ⟨hxn, hxb⟩ := longOk hlg
    have hx : dualV (N : Int) l x = (x.all (fun y => decide (y ≤ 0)) && sumV x x.length == lstN l) := by
      unfold dualV
      rw [hbl, Int.toNat_natCast, wt_full x N hN (by omega), show x.length = N by omega]; rfl
    have hsb := sumV_bd x hxb
    have hpos : 0 < l.length := by rw [hll]; exact Nat.two_pow_pos N
    have hle := fun W (h : Ints W (.slice a l.length c) l) => l10Least_any W (N : Int) _ l h hpos
    obtain ⟨M, hM⟩ : ∃ P, P = lstN l := ⟨_, rfl⟩
    rw [← hM] at hx
    simp only [← hM] at hle
    have HX := Lib.hid hx
    have HB := Lib.hid hbl
    have HLE := Lib.hid hle
    have HSB := Lib.hid hsb
    have HXB := Lib.hid hxb
    have HC := Lib.hid hc
    have HIX := Lib.hid hix
    have hx5 : x.length ≤ 5 := by omega
    clear hx hbl hle hsb hxb hc hix hM hll hq2 hbd hxn hf hlg hpos
    go_enter Tryz.func12, Tryz.ntmps12
    go_wp2_with fail
    refine (isBelowS_any _ _ _ l (hv.alloc _) _ x (hu0.alloc _)).mono ?_
    rintro e w1 ⟨rfl, b1⟩
    rw [HB.out]
    have B1 : Below w.heap.size w w1 := (bl1 _ _).after b1 (by simp)
    have K1 := K0.keep b1
    clear K0 b1
    have G := K1.cell
    go_wp2_with fail
    go_loop [5, 6] (fun sv iv => ∃ j : Nat, j ≤ x.length ∧ iv = .int .i64 j ∧ sv = .int .i64 (sumV x j) ∧ (x.take j).all (fun y => decide (y ≤ 0)) = true) (fun _ iv => x.length - (intOf iv).toNat)
    case atStart => exact ⟨0, Nat.zero_le _, rfl, rfl, rfl⟩
    case round =>
      obtain ⟨j, hj, rfl, rfl, hall⟩ := hrel
      have hbd := HSB.out j hj
      have HALL := Lib.hid hall
      clear hall
      by_cases hlt : j < x.length
      · have hlt2 : (j : Int) < (x.length : Int) := by omega
        have ck := cells_below HC.out hb B1 (Nat.le_refl _) j hlt
        have ik := fun W => HIX.out W j hlt
        have hyb := HXB.out j hlt
        have htk := all_take_succ (fun y : Int => decide (y ≤ 0)) x j hlt
        have hfa := all_false_at (fun y : Int => decide (y ≤ 0)) x j hlt
        have hsu : sumV x (j + 1) = sumV x j + x[j] := by rw [sumV, getD_at x j hlt]
        obtain ⟨y, hy⟩ : ∃ y, y = x[j] := ⟨_, rfl⟩
        obtain ⟨S, hS⟩ : ∃ S, S = sumV x j := ⟨_, rfl⟩
        rw [← hy] at ck hyb htk hfa hsu
        rw [← hS] at hbd hsu ⊢
        have HSU := Lib.hid hsu
        have HTK := Lib.hid htk
        have HFA := Lib.hid hfa
        have hwr : IntKind.i64.wrap (S + y) = S + y := by rw [IntKind.wrap_i64]; omega
        clear hy hS hsu htk hfa
        by_cases hp : 0 < y
        · have hx : dualV (N : Int) l x = false := by rw [HX.out, HFA.out (by rw [decide_eq_false_iff_not]; omega)]; rfl
          have HX2 := Lib.hid hx
          clear hx
          go_wp2
          go_ret
          exact ⟨ret_bool HX2.out.symm, B1⟩
        · have ha2 : (x.take (j + 1)).all (fun y => decide (y ≤ 0)) = true := by rw [HTK.out, HALL.out, decide_eq_true (show y ≤ 0 by omega)]; rfl
          have HA2 := Lib.hid ha2
          clear ha2
          go_wp2
          go_round
          case rel => exact ⟨j + 1, by omega, by go_num, by rw [HSU.out], HA2.out⟩
          case measure => simp [intOf]; omega
      · have hlt2 : ¬ (j : Int) < (x.length : Int) := by omega
        have hje : j = x.length := by omega
        have hx : dualV (N : Int) l x = (sumV x j == M) := by rw [HX.out, ← all_of_take _ x j (by omega), HALL.out, hje]; rfl
        obtain ⟨S, hS⟩ : ∃ S, S = sumV x j := ⟨_, rfl⟩
        rw [← hS] at hx ⊢
        have HX2 := Lib.hid hx
        clear hx hS hje
        go_wp2_with fail
        refine (HLE.out w1 (hv.below B1 (Nat.le_refl _))).mono ?_
        rintro e w2 ⟨rfl, b2⟩
        go_wp2
        go_ret
        exact ⟨ret_bool HX2.out.symm, B1.after b2 B1.size⟩

set_option maxHeartbeats 1000000 in
set_option maxRecDepth 100000 in
theorem isBaseS_any (w : World) (n : Int) (v : Value) (l : List Int) (hv : Ints w v l) (u : Value) (x : List Int) (hu : Ints w u x) :
    Calls Tryz.prog 50 #[.agg #[.int .i64 n, v], u] w fun e w' => e = .returned (.bool (baseB n l x)) ∧ Below w.heap.size w w' := by
  obtain ⟨a, b, off, c, rfl, hlen, hix, hc, hb⟩ := hv.view Tryz.prog 22 3 Tryz.underlying22 intElem
  obtain ⟨au, cu, rfl⟩ := hu.shape
  have K0 := Blk.new w 31 #[.int .i64 n, .slice a l.length c]
  have hv0 := hv.alloc (.cells #[.int .i64 n, .slice a l.length c] 31)
  have hu0 := hu.alloc (.cells #[.int .i64 n, .slice a l.length c] 31)
  have B0 := bl1 w (.cells #[.int .i64 n, .slice a l.length c] 31)
  obtain ⟨W0, hW0⟩ : ∃ W, W = w.alloc (.cells #[.int .i64 n, .slice a l.length c] 31) := ⟨_, rfl⟩
  rw [← hW0] at K0 B0 hv0 hu0
  have G0 := K0.cell
  have e0 : ∀ y : Ext W0, y.w.cell? ⟨w.heap.size, 0, none⟩ = some (.int .i64 n) := fun y => y.cell (G0 0)
  have e1 : ∀ y : Ext W0, y.w.cell? ⟨w.heap.size, 1, none⟩ = some (.slice a l.length c) := fun y => y.cell (G0 1)
  have QB := Lib.hid (fun y : Ext W0 => isBelowS_any y.w n _ l (y.ints hv0) _ x (y.ints hu0))
  cases hbl : belB n l x with
  | false =>
    have hx : baseB n l x = false := by unfold baseB; rw [hbl]; rfl
    simp only [hbl] at QB
    have HX := Lib.hid hx
    have HW0 := Lib.hid hW0
    clear hx hbl hW0 G0 hix hc hb K0
    go_enter Tryz.func50, Tryz.ntmps50
    go_wp2_with fail
    rw [HW0.out.symm]
    refine wp_region_ext _ (by kernel_rfl) (by kernel_rfl) ?_
    repeat (first | go_big_quiet_skip | (go_big_quiet_want; go_big_quiet_op; first | go_big_quiet_on | (apply Exists.intro; refine ⟨fun _ => ?_, ?_⟩; (go_at_call 45; exact ext_call (QB.out _)); go_big_quiet_on)))
    refine wpQuiet_nil ?_
    rintro w3 ⟨⟨w3, hb3⟩, rfl⟩
    try dsimp only
    go_wp2
    go_ret
    exact ⟨ret_bool HX.out.symm, B0.after hb3 B0.size⟩
  | true =>
    simp only [hbl] at QB
    obtain ⟨hf, hlg⟩ := bel_parts hbl
    obtain ⟨N, rfl, hN, hll, hq2, hbd⟩ := fun_nat hf
    obtain ⟨hxn, hxb⟩ := longOk hlg
    have hpn := Nat.two_pow_pos N
    have hpe : ((2 : Int) ^ N) = ((2 ^ N : Nat) : Int) := by simp
    have hli : l.length - 1 < l.length := by omega
    have hx : baseB (N : Int) l x = (wt x (2 ^ N - 1) == l[l.length - 1]) := by
      unfold baseB slackOf
      have e1 : ((2 : Int) ^ N - 1).toNat = l.length - 1 := by rw [hpe]; omega
      rw [hbl, Int.toNat_natCast, e1, getD_at l _ hli, Bool.true_and, Bool.eq_iff_iff, beq_iff_eq, beq_iff_eq]
      omega
    have hp := two_pow N 5 hN
    have hp1 := hp.1
    have hp2 := hp.2
    simp at hp1
    have ck := cells_below hc hb B0 (Nat.le_refl _) (l.length - 1) hli
    have ik : ∀ W, (Instr.indexAt 22 (.slice a l.length c) (.int .i64 ((l.length : Int) - 1))).run Tryz.prog W = .ok (.pointer (some ⟨b, off + (l.length - 1), none⟩)) W := fun W => by
      have := hix W (l.length - 1) hli
      rw [show ((l.length - 1 : Nat) : Int) = (l.length : Int) - 1 by omega] at this
      exact this
    have hwl : IntKind.i64.wrap ((l.length : Int) - 1) = (l.length : Int) - 1 := by rw [IntKind.wrap_i64]; omega
    obtain ⟨y, hy⟩ : ∃ y, y = l[l.length - 1] := ⟨_, rfl⟩
    rw [← hy] at hx ck
    have hwt := fun z : Ext W0 => l3Weigh_any x (.slice au x.length cu) (2 ^ N - 1) z.w (z.ints hu0) (by omega) (by omega) (fun k hk => by have := hxb k hk; omega) (by omega)
    obtain ⟨Wt, hWt⟩ : ∃ P, P = wt x (2 ^ N - 1) := ⟨_, rfl⟩
    rw [← hWt] at hx
    simp only [← hWt] at hwt
    have e2 : ∀ z : Ext W0, z.w.cell? ⟨b, off + (l.length - 1), none⟩ = some (.int .i64 y) := fun z => z.cell ck
    obtain ⟨p, hp⟩ : ∃ p, p = off + (l.length - 1) := ⟨_, rfl⟩
    rw [← hp] at ik e2
    have HX := Lib.hid hx
    have HW0 := Lib.hid hW0
    have QF := Lib.hid (fun z : Ext W0 => l2Full_any N z.w (by omega))
    have QW := Lib.hid hwt
    clear hx hbl hW0 G0 hix hc hb K0 hll hq2 hbd hxn hxb hf hlg hpn hpe hli ck hy hWt hp hwt hlen
    go_enter Tryz.func50, Tryz.ntmps50
    go_wp2_with fail
    rw [HW0.out.symm]
    refine wp_region_ext _ (by kernel_rfl) (by kernel_rfl) ?_
    repeat (first | go_big_quiet_skip | (go_big_quiet_want; go_big_quiet_op; first | go_big_quiet_on | (apply Exists.intro; refine ⟨fun _ => ?_, ?_⟩; (first | (go_at_call 45; exact ext_call (QB.out _)) | (go_at_call 15; exact ext_same (QF.out _)) | (go_at_call 14; exact ext_same (QW.out _))); go_big_quiet_on)))
    refine wpQuiet_nil ?_
    rintro w3 ⟨⟨w3, hb3⟩, rfl⟩
    try dsimp only
    go_wp2
    go_ret
    exact ⟨ret_bool HX.out.symm, B0.after hb3 B0.size⟩
end Go.Proofs.YtelmokapdkepbaaGreat
end
section
namespace Go.G5
open Go Go.RowKit
theorem cell_growIn {w w' : World} {P : Nat → Prop} (hg : GrownIn w w' P) {p : Addr} {v : Value} (d : w.cell? p = some v) (hn : ¬ P p.block) : w'.cell? p = some v := by
  have e := hg.block p.block (World.block_lt_of_cell? w p d) hn
  unfold World.cell? at d ⊢
  rw [e]; exact d
theorem own_view {P : Program} {E : TypeId} {B : Nat} {w : World} {a : Option Addr} {n c : Nat} {l : List Int} (h : OwnI E B w (.slice a n c) l) (T : TypeId) (hT : P.underlying T = some (.slice E)) (hs : IntElem P E) (hl : l ≠ []) :
    ∃ g, B ≤ g ∧ g < w.heap.size ∧ (∀ (W : World) (k : Nat), k < l.length → (Instr.indexAt T (.slice a n c) (.int .i64 (k : Int))).run P W = .ok (.pointer (some ⟨g, k, none⟩)) W) ∧ ∀ k, (h : k < l.length) → w.cell? ⟨g, k, none⟩ = some (.int .i64 l[k]) := by
  have hE : P.elem T = E := by simp [Program.elem, hT]
  obtain ⟨i, hi, _, hi', _⟩ := hs.get
  have h0 := h
  rcases h.cases with ⟨_, e⟩ | ⟨g, cap, e, hB, hg⟩
  · exact absurd e hl
  · simp only [Value.slice.injEq] at e
    obtain ⟨rfl, rfl, rfl⟩ := e
    refine ⟨g, hB, hg, fun W k hk => ?_, fun k hk => h0.cellAt rfl k hk⟩
    rw [run_indexAt_slice W T ⟨g, 0, none⟩ l.length c .i64 k (by rw [hE]; exact hT), if_pos ⟨by omega, by omega⟩, hE]
    simp [sizeOf, typeInfo, hi, hi', Addr.add]
    exact fun h => h.symm
theorem grow_new {w wr w6 : World} {B0 : Nat} {v : Value} {n : Nat} (gw : GrownIn w wr (fun k => k = B0)) (o : Obj) (m : Nat) (hg : ((wr.drewN m).alloc o).grownBy w6 v.ownBlock) (hn : ∀ k, v.ownBlock = some k → k = B0 ∨ n ≤ k) (hnw : n = w.heap.size := by rfl) : GrownIn w w6 (fun k => k = B0) := by
  subst hnw
  have g1 : GrownIn w ((wr.drewN m).alloc o) (fun k => k = B0) := (gw.trans (GrownIn.of_below ((Below.refl _ _).drewN' m))).trans (GrownIn.of_below (bl1 _ _))
  refine ⟨hg.os.trans g1.os, hg.tape.trans g1.tape, hg.output.trans g1.output, Nat.le_trans g1.size hg.size, fun b hb hnb => ?_⟩
  rw [hg.block b (Nat.lt_of_lt_of_le hb g1.size) (fun e => by
    rcases hn b e.symm with h | h
    · exact hnb h
    · omega)]
  exact g1.block b hb hnb
theorem near_new {w w' : World} {B0 n : Nat} {v v' : Value} (h : NearBy w' v v') (hn : ∀ k, v.ownBlock = some k → k = B0 ∨ n ≤ k) (hz : n ≤ w.heap.size) (hw : w.heap.size ≤ w'.heap.size := by simp) : ∀ k, v'.ownBlock = some k → k = B0 ∨ n ≤ k := by
  intro k hk
  rcases h with h | h
  · exact hn k (h ▸ hk)
  · rw [h] at hk
    have := Option.some.inj hk
    exact .inr (by omega)
end Go.G5
namespace Go.Proofs.YtelmokapdkepbaaGreat
open Go.RowKit Go.G5

set_option maxHeartbeats 2000000 in
set_option maxRecDepth 100000 in
theorem levelSetsS_any (x : List Int) (v : Value) (w : World) (hv : Ints w v x) (h5 : x.length ≤ 5) (hx : ∀ y ∈ x, -1000 ≤ y ∧ y ≤ 1000) (hvx : vecB x = true) :
    Calls Tryz.prog 51 #[v] w fun e w' => ∃ ad i c, e = .returned (.tuple #[.slice ad i c, .bool true]) ∧ OwnI 3 w.heap.size w' (.slice ad i c) (lsL x) ∧ Below w.heap.size w w' := by
  obtain ⟨a, b, off, c, rfl, hlen, hix, hc, hb⟩ := hv.view Tryz.prog 22 3 Tryz.underlying22 intElem
  have hds := fun W (h : Ints W (.slice a x.length c) x) => orderForS_any x _ W h
  have hoe : ordL x = ordN x x.length := by unfold ordL; rw [hvx]; rfl
  simp only [hvx, hoe] at hds
  have hcl := cut_less x
  have hom := ordN_mem x x.length
  have hol := ordN_len x x.length
  obtain ⟨T, hT⟩ : ∃ T, T = lsL x := ⟨_, rfl⟩
  have hTe : T = lsTo x (ordN x x.length) x.length := hT
  rw [← hT]
  obtain ⟨o, ho⟩ : ∃ o, o = ordN x x.length := ⟨_, rfl⟩
  simp only [← ho] at hds
  rw [← ho] at hom hol hTe
  simp only [← ho] at hcl
  have HCL := Lib.hid hcl
  have HV := Lib.hid hv
  have HX := Lib.hid hx
  have HC := Lib.hid hc
  have HIX := Lib.hid hix
  have HDS := Lib.hid hds
  have HOM := Lib.hid hom
  have HOL := Lib.hid hol
  have HT := Lib.hid hTe
  have hlb := fun i (hi : i ≤ o.length) => lvS_bd o (fun e he => by have := hom e he; omega) i hi
  have HLB := Lib.hid hlb
  clear hc hix hds hom hol hTe hT hlb hx ho hcl hoe hvx
  have o0 := OwnI.lit0 (E := 3) (B := w.heap.size) w (Nat.le_refl _)
  go_enter Tryz.func51, Tryz.ntmps51
  go_wp2_with fail
  refine (HDS.out _ (HV.out.alloc _)).mono ?_
  rintro e w2 ⟨po, io, qo, rfl, oo, b2'⟩
  have b2 : Below w.heap.size w w2 := (bl1 _ _).after b2' (by simp)
  have o2 := o0.keep b2'
  have hio : io = x.length := by rw [← HOL.out]; exact oo.ints.capLe.1
  subst hio
  have hov : ∃ ob : Nat, x ≠ [] → w.heap.size + 1 ≤ ob ∧ ob < w2.heap.size ∧ (∀ (W : World) (k : Nat), k < x.length → (Instr.indexAt 22 (.slice po x.length qo) (.int .i64 (k : Int))).run Tryz.prog W = .ok (.pointer (some ⟨ob, k, none⟩)) W) ∧ ∀ k, (h : k < o.length) → w2.cell? ⟨ob, k, none⟩ = some (.int .i64 o[k]) := by
    by_cases hne : x = []
    · exact ⟨0, fun h => absurd hne h⟩
    · have hne' : o ≠ [] := fun e => hne (List.eq_nil_of_length_eq_zero (by rw [← HOL.out, e]; rfl))
      obtain ⟨ob, q1, q2, q3, q4⟩ := own_view oo 22 Tryz.underlying22 intElem hne'
      refine ⟨ob, fun _ => ⟨by simpa using q1, q2, fun W k hk => ?_, q4⟩⟩
      exact q3 W k (by rw [HOL.out]; exact hk)
  obtain ⟨ob, hob⟩ := hov
  have HOB := Lib.hid hob
  clear o0 b2' oo hob
  go_wp2_with fail
  go_loopw [4, 7, 8] (fun ov sv iv wr => ∃ (i : Nat) (p : Option Addr) (q m : Nat), i ≤ x.length ∧ iv = .int .i64 i ∧ sv = .int .i64 (lvS o i) ∧ ov = .slice p q m ∧ OwnI 3 w.heap.size wr (.slice p q m) (lsTo x o i) ∧ (∀ k, (Value.slice p q m).ownBlock = some k → k = w.heap.size ∨ w2.heap.size ≤ k) ∧ GrownIn w2 wr (fun k => k = w.heap.size)) (fun _ _ iv _ => x.length - (intOf iv).toNat)
  case atStart => exact ⟨0, _, _, _, Nat.zero_le _, rfl, rfl, rfl, o2, fun k hk => .inl (Option.some.inj hk).symm, GrownIn.refl _ _⟩
  case round =>
    obtain ⟨i, p, q, m, hi, rfl, rfl, rfl, own, hnb, gw⟩ := hrel
    obtain ⟨wo, rfl⟩ : ∃ z : World, z = wr := ⟨_, rfl⟩
    have HOWN := Lib.hid own
    have hwz := b2.size
    have B2w : Below w.heap.size w wo := Below.growIn b2 gw b2.size (by rintro k rfl; exact Nat.le_refl _)
    have zw := gw.size
    clear own
    by_cases hlt : i < x.length
    · have hlt2 : (i : Int) < (x.length : Int) := by omega
      have hio : i < o.length := by rw [HOL.out]; exact hlt
      have hne : x ≠ [] := fun e => by rw [e] at hlt; simp at hlt
      have hq := HOB.out hne
      have ocw : wo.cell? ⟨ob, i, none⟩ = some (.int .i64 o[i]) := cell_growIn gw (hq.2.2.2 i hio) (by show ¬ ob = w.heap.size; omega)
      have oix := fun W => hq.2.2.1 W i hlt
      have hm := HOM.out _ (List.getElem_mem hio)
      have hl1 := HLB.out i (by omega)
      have hl2 := HLB.out (i + 1) (by omega)
      have hnx : lvS o (i + 1) = ior (lvS o i) (2 ^ o[i].toNat) := by rw [lvS, List.getD_eq_getElem?_getD, List.getElem?_eq_getElem hio, Option.getD_some]
      have hat : atO x o i = x.getD o[i].toNat 0 := by unfold atO; rw [getD_at o i hio]
      have hls : lsTo x o (i + 1) = lsTo x o i ++ (if cutL x o i then [lvS o (i + 1)] else []) := rfl
      obtain ⟨e, he⟩ : ∃ e : Nat, o[i] = (e : Int) := ⟨o[i].toNat, by omega⟩
      rw [he] at ocw hm hnx hat
      rw [Int.toNat_natCast] at hnx hat
      have he5 : e < x.length := by omega
      rw [getD_at x e he5] at hat
      have xe := HC.out e he5
      have xew := cells_below HC.out hb B2w (Nat.le_refl _) e he5
      have xie := fun W => HIX.out W e he5
      have hxe := HX.out _ (List.getElem_mem he5)
      obtain ⟨X1, hX1⟩ : ∃ X1, X1 = x[e] := ⟨_, rfl⟩
      rw [← hX1] at xew hat hxe
      have hp := two_pow e 5 (by omega)
      have hp1 := hp.1
      have hp2 := hp.2
      simp at hp1
      obtain ⟨s1, hs1⟩ : ∃ s, s = lvS o i := ⟨_, rfl⟩
      obtain ⟨s2, hs2⟩ : ∃ s, s = lvS o (i + 1) := ⟨_, rfl⟩
      rw [← hs1] at hl1 hnx ⊢
      rw [← hs2] at hl2 hnx hls
      have hor : bits .or .i64 s1 (2 ^ e) = s2 := by rw [hnx]; exact ior_is hl1.1 (by omega) (by omega) (by omega)
      have HS2 := Lib.hid hs2
      have HLS := Lib.hid hls
      have hll := lsTo_len x o i
      have hwi : IntKind.i64.wrap ((i : Int) + 1) = (i : Int) + 1 := by rw [IntKind.wrap_i64]; omega
      have zo := B2w.size
      have hcut : cutL x o i = (i + 1 == o.length || atO x o (i + 1) != atO x o i) := rfl
      rw [hat] at hcut
      have HAT := Lib.hid hat
      clear xe hX1 hs1 hs2 hnx hls hat he hm hp hq
      by_cases hend : i + 1 = x.length
      · have hce : cutL x o i = true := by rw [hcut, HOL.out]; simp [hend]
        have ht : ((i : Int) + 1 == (x.length : Int)) = true := by simp; omega
        have hls2 : lsTo x o (i + 1) = lsTo x o i ++ [s2] := by rw [HLS.out, hce]; rfl
        have HL2 := Lib.hid hls2
        clear hce hls2 hcut hend
        go_wp2_with fail
        go_quiet (fail)
        go_wp2_with (at_builtin; refine wpList_appendN1 rfl _ _ _ rfl 3 Tryz.underlying22 intElem w.heap.size _ (lsTo x o i) s2 _ rfl rfl (cell_new _ _ _ _ _ rfl) ((HOWN.out.drewN _).alloc _) ⟨by omega, by omega⟩ (by omega) (by simp; omega) ?_; intro v' w6 hown hgr hnear; obtain ⟨av, nv, cv, rfl⟩ := hown.shape3)
        have G6 := grow_new gw (.cells #[.int .i64 s2] 3) _ hgr hnb
        have N6 := near_new hnear hnb zw
        go_roundw
        case rel => exact ⟨i + 1, av, nv, cv, by omega, by go_num, by rw [HS2.out], rfl, by rw [HL2.out]; exact hown, N6, G6⟩
        case measure => simp [intOf]; omega
      · have hlt' : i + 1 < x.length := by omega
        have ht : ((i : Int) + 1 == (x.length : Int)) = false := by simp; omega
        have hio' : i + 1 < o.length := by rw [HOL.out]; exact hlt'
        have hq := HOB.out hne
        have ocw' : wo.cell? ⟨ob, i + 1, none⟩ = some (.int .i64 o[i + 1]) := cell_growIn gw (hq.2.2.2 (i + 1) hio') (by show ¬ ob = w.heap.size; omega)
        have oix' : ∀ W, (Instr.indexAt 22 (.slice po x.length qo) (.int .i64 ((i : Int) + 1))).run Tryz.prog W = .ok (.pointer (some ⟨ob, i + 1, none⟩)) W := fun W => by have := hq.2.2.1 W (i + 1) hlt'; simpa using this
        clear hq
        have hm' := HOM.out _ (List.getElem_mem hio')
        have hat' : atO x o (i + 1) = x.getD o[i + 1].toNat 0 := by unfold atO; rw [getD_at o (i + 1) hio']
        obtain ⟨e', he'⟩ : ∃ e' : Nat, o[i + 1] = (e' : Int) := ⟨o[i + 1].toNat, by omega⟩
        rw [he'] at ocw' hm' hat'
        rw [Int.toNat_natCast] at hat'
        have he5' : e' < x.length := by omega
        rw [getD_at x e' he5'] at hat'
        have xew' := cells_below HC.out hb B2w (Nat.le_refl _) e' he5'
        have xie' := fun W => HIX.out W e' he5'
        obtain ⟨X2, hX2⟩ : ∃ X2, X2 = x[e'] := ⟨_, rfl⟩
        rw [← hX2] at xew' hat'
        rw [hat'] at hcut
        have hne2 : (i + 1 == o.length) = false := by rw [HOL.out]; simp; omega
        rw [hne2, Bool.false_or] at hcut
        have hcl2 := HCL.out i hlt'
        rw [hat', HAT.out] at hcl2
        rw [hcl2] at hcut
        clear hX2 hat' he' hm' hne2 hcl2
        cases hc2 : decide (X2 < X1) with
        | false =>
          have hls2 : lsTo x o (i + 1) = lsTo x o i := by rw [HLS.out, hcut, hc2]; simp
          have HL2 := Lib.hid hls2
          clear hls2 hcut hend
          go_wp2_with fail
          go_quiet (fail)
          go_wp2
          go_roundw
          case rel => exact ⟨i + 1, p, q, m, by omega, by go_num, by rw [HS2.out], rfl, by rw [HL2.out]; exact HOWN.out.drewN _, hnb, gw.trans (GrownIn.of_below ((Below.refl _ _).drewN' _))⟩
          case measure => simp [intOf]; omega
        | true =>
          have hls2 : lsTo x o (i + 1) = lsTo x o i ++ [s2] := by rw [HLS.out, hcut, hc2]; rfl
          have HL2 := Lib.hid hls2
          clear hls2 hcut hend
          go_wp2_with fail
          go_quiet (fail)
          go_wp2_with (at_builtin; refine wpList_appendN1 rfl _ _ _ rfl 3 Tryz.underlying22 intElem w.heap.size _ (lsTo x o i) s2 _ rfl rfl (cell_new _ _ _ _ _ rfl) ((HOWN.out.drewN _).alloc _) ⟨by omega, by omega⟩ (by omega) (by simp; omega) ?_; intro v' w6 hown hgr hnear; obtain ⟨av, nv, cv, rfl⟩ := hown.shape3)
          have G6 := grow_new gw (.cells #[.int .i64 s2] 3) _ hgr hnb
          have N6 := near_new hnear hnb zw
          go_roundw
          case rel => exact ⟨i + 1, av, nv, cv, by omega, by go_num, by rw [HS2.out], rfl, by rw [HL2.out]; exact hown, N6, G6⟩
          case measure => simp [intOf]; omega
    · have hlt2 : ¬ (i : Int) < (x.length : Int) := by omega
      have hie : i = x.length := by omega
      subst hie
      go_wp2
      go_ret2
      exact ⟨_, _, _, rfl, by rw [HT.out]; exact HOWN.out, B2w⟩
end Go.Proofs.YtelmokapdkepbaaGreat
end
