/- Polymatroids and ranks of matroids, both programs. Raised vectors. Raised vectors: the second program. -/
import Derived.Test.YtelmokapdkepbaaGreatDoorQ12
section
namespace Go.Proofs.YtelmokapdkepbaaGreatDoor
open Go.RowKit Go.G5

def polyB (n : Int) (l : List Int) : Bool := (isGrB n l && incB n l) && subB n l
def oneB (l : List Int) (e : Nat) : Bool := !decide ((1 : Int) < l.getD (2 ^ e) 0)
def rankB (n : Int) (l : List Int) : Bool := polyB n l && allTo (oneB l) n.toNat
theorem poly_fun {n : Int} {l : List Int} (h : polyB n l = true) : isFunB n l = true := by
  unfold polyB isGrB at h
  simp only [Bool.and_eq_true] at h
  exact h.1.1.1
end Go.Proofs.YtelmokapdkepbaaGreatDoor
end
section
namespace Go.Proofs.YtelmokapdkepbaaGreatDoor
open Go.RowKit Go.G5

def raisB (n : Int) (l x m : List Int) : Bool := subB n l && belB n l x && isLongB n m
def rvTo (n : Int) (l x m : List Int) : Nat → List Int
  | 0 => x
  | k + 1 => if (rvTo n l x m k).getD k 0 < m.getD k 0 then (rvTo n l x m k).set k (min ((rvTo n l x m k).getD k 0 + capN n l (rvTo n l x m k) k) (m.getD k 0)) else rvTo n l x m k
def rvL (n : Int) (l x m : List Int) : List Int := if raisB n l x m then rvTo n l x m x.length else []
theorem rvTo_len (n : Int) (l x m : List Int) : ∀ k, (rvTo n l x m k).length = x.length := by
  intro k
  induction k with
  | zero => rfl
  | succ k ih => rw [rvTo]; split <;> simp [ih]
theorem rvTo_bd (n : Int) (l x m : List Int) (hm : m.length = x.length) (hx : ∀ k, (hk : k < x.length) → -5000 ≤ x[k] ∧ x[k] ≤ 5000) (hmb : ∀ k, (hk : k < m.length) → -5000 ≤ m[k] ∧ m[k] ≤ 5000) : ∀ k, k ≤ x.length → ∀ y ∈ rvTo n l x m k, -5000 ≤ y ∧ y ≤ 5000 := by
  intro k
  induction k with
  | zero =>
    intro _ y hy
    obtain ⟨i, hi, rfl⟩ := List.getElem_of_mem hy
    exact hx i hi
  | succ k ih =>
    intro hk y hy
    have ih := ih (by omega)
    rw [rvTo] at hy
    by_cases hc : (rvTo n l x m k).getD k 0 < m.getD k 0
    · rw [if_pos hc] at hy
      rcases List.mem_or_eq_of_mem_set hy with hy | hy
      · exact ih y hy
      · have hl := rvTo_len n l x m k
        have h1 : (rvTo n l x m k).getD k 0 = (rvTo n l x m k)[k]'(by omega) := getD_at _ k (by omega)
        have h2 : m.getD k 0 = m[k]'(by omega) := getD_at _ k (by omega)
        have h3 := ih _ (List.getElem_mem (show k < (rvTo n l x m k).length by omega))
        have h4 := hmb k (by omega)
        have h5 := capN_bd n l (rvTo n l x m k) k
        rw [h1, h2] at hy
        omega
    · rw [if_neg hc] at hy
      exact ih y hy
theorem rais_fun {n : Int} {l x m : List Int} (h : raisB n l x m = true) : ∃ N : Nat, n = N ∧ N ≤ 5 ∧ x.length = N ∧ m.length = x.length ∧ (∀ k, (hk : k < x.length) → -5000 ≤ x[k] ∧ x[k] ≤ 5000) ∧ (∀ k, (hk : k < m.length) → -5000 ≤ m[k] ∧ m[k] ≤ 5000) := by
  unfold raisB at h
  simp only [Bool.and_eq_true] at h
  obtain ⟨⟨_, h2⟩, h3⟩ := h
  obtain ⟨N, rfl, hN5, _, _, hxl, _, hxb, _⟩ := bel_fun h2
  obtain ⟨h4, h5⟩ := longOk h3
  exact ⟨N, rfl, hN5, hxl, by omega, hxb, h5⟩

set_option maxHeartbeats 2000000 in
set_option maxRecDepth 100000 in
theorem raiseI_any (w : World) (n : Int) (v : Value) (l : List Int) (hv : Ints w v l) (hl : l.length ≤ 1048576) (u : Value) (x : List Int) (hu : Ints w u x) (t : Value) (m : List Int) (ht : Ints w t m) :
    Calls Tryz.prog 89 #[.agg #[.int .i64 n, v], u, t] w fun e' w' => ∃ ad i c, e' = .returned (.tuple #[.slice ad i c, .bool (raisB n l x m)]) ∧ OwnI 3 w.heap.size w' (.slice ad i c) (rvL n l x m) ∧ Below w.heap.size w w' := by
  obtain ⟨a, c, rfl⟩ := hv.shape
  obtain ⟨b, cu, rfl⟩ := hu.shape
  obtain ⟨bt, bq, off2, ct, rfl, hlen2, hix2, hc2, hb2⟩ := ht.view Tryz.prog 22 3 Tryz.underlying22 intElem
  obtain ⟨V, hV⟩ : ∃ V, V = w.alloc (.cells #[.int .i64 n, .slice a l.length c] 27) := ⟨_, rfl⟩
  have B : Below w.heap.size w V := by rw [hV]; exact bl1 _ _
  have K : Blk V w.heap.size 27 #[.int .i64 n, .slice a l.length c] := by rw [hV]; exact Blk.new _ _ _
  go_enter Tryz.func89, Tryz.ntmps89
  go_wp2_with fail
  rw [← hV]
  clear hV
  refine (isSubI_any n l _ V (hv.below B (Nat.le_refl _)) hl).mono ?_
  rintro e' w1 ⟨rfl, b1⟩
  have K := K.keep b1
  have B := B.after b1 B.size
  have G := K.cell
  cases hs : subB n l with
  | false =>
    have hx : raisB n l x m = false := by unfold raisB; rw [hs]; rfl
    have hy : rvL n l x m = [] := by unfold rvL; rw [hx]; rfl
    have HX := Lib.hid (And.intro hx hy)
    clear hx hy hs
    go_wp2
    go_ret2
    exact ⟨none, 0, 0, by rw [HX.out.1]; rfl, by rw [HX.out.2]; exact OwnI.nil _ _ _, B⟩
  | true =>
  go_wp2_with fail
  clear G
  refine (isBelowI_any w1 n _ l (hv.below B (Nat.le_refl _)) _ x (hu.below B (Nat.le_refl _))).mono ?_
  rintro e' w2 ⟨rfl, b2⟩
  have K := K.keep b2
  have B := B.after b2 B.size
  have G := K.cell
  cases hb : belB n l x with
  | false =>
    have hx : raisB n l x m = false := by unfold raisB; rw [hb]; simp
    have hy : rvL n l x m = [] := by unfold rvL; rw [hx]; rfl
    have HX := Lib.hid (And.intro hx hy)
    clear hx hy hs hb
    go_wp2
    go_ret2
    exact ⟨none, 0, 0, by rw [HX.out.1]; rfl, by rw [HX.out.2]; exact OwnI.nil _ _ _, B⟩
  | true =>
  go_wp2_with fail
  clear G
  refine (isLong_any n l _ m _ w2 (hv.below B (Nat.le_refl _)) (ht.below B (Nat.le_refl _))).mono ?_
  rintro e' w3 ⟨rfl, b3⟩
  have K := K.keep b3
  have B := B.after b3 B.size
  have G := K.cell
  cases hlo : isLongB n m with
  | false =>
    have hx : raisB n l x m = false := by unfold raisB; rw [hlo]; simp
    have hy : rvL n l x m = [] := by unfold rvL; rw [hx]; rfl
    have HX := Lib.hid (And.intro hx hy)
    clear hx hy hs hb hlo
    go_wp2
    go_ret2
    exact ⟨none, 0, 0, by rw [HX.out.1]; rfl, by rw [HX.out.2]; exact OwnI.nil _ _ _, B⟩
  | true =>
  have hx : raisB n l x m = true := by unfold raisB; rw [hs, hb, hlo]; rfl
  have hy : rvL n l x m = rvTo n l x m x.length := by unfold rvL; rw [hx]; rfl
  obtain ⟨N, rfl, hN5, hxl, hml, hxb, hmb⟩ := rais_fun hx
  have HBD := Lib.hid (rvTo_bd N l x m hml hxb hmb)
  have HMB := Lib.hid hmb
  have HX := Lib.hid (And.intro hx hy)
  have HML := Lib.hid hml
  have HXL := Lib.hid hxl
  clear hx hy hs hb hlo hxb hmb hml hxl
  go_wp2_with fail
  clear G
  refine (clone_any _ x w3 (hu.below B (Nat.le_refl _)) (by have := HXL.out; omega)).mono ?_
  rintro e' w4 ⟨p, i, q, rfl, o, b4⟩
  have zk := K.lt
  have hgw : ∀ g, (Value.slice p i q).ownBlock = some g → w.heap.size < g := fun g h => by have := (o.lt g h).1; omega
  have K := K.keep b4
  have o := o.mono (B' := w.heap.size) B.size
  have B := B.after b4 B.size
  have hi : i = x.length := by
    obtain ⟨_, _, h⟩ := o.shape
    injection h
  subst hi
  go_wp2_with fail
  go_loopw [31] (fun i wr => ∃ k : Nat, k ≤ x.length ∧ i = .int .i64 k ∧ OwnI 3 w.heap.size wr (.slice p x.length q) (rvTo N l x m k) ∧ (∀ g, (Value.slice p x.length q).ownBlock = some g → w.heap.size < g) ∧ Blk wr w.heap.size 27 #[.int .i64 (N : Int), .slice a l.length c] ∧ Below w.heap.size w wr) (fun i _ => x.length - (intOf i).toNat)
  case atStart => exact ⟨0, Nat.zero_le _, rfl, o, hgw, K, B⟩
  case round =>
    clear hgw
    obtain ⟨k, hk, rfl, ow, hgw, Kr, Br⟩ := hrel
    clear o K B
    have HO := Lib.hid ow
    have HGW := Lib.hid hgw
    clear ow hgw
    by_cases hlt : k < x.length
    · have hlt2 : (k : Int) < (x.length : Int) := by omega
      have hlr := rvTo_len N l x m k
      rcases HO.out.cases with ⟨h1, h2⟩ | ⟨g, cap, h1, hg1, hg2⟩
      · rw [h2] at hlr; simp at hlr; omega
      · injection h1 with h1 h3 h4
        subst h1 h4
        have hgb := HGW.out g rfl
        clear h3
        have hkr : k < (rvTo N l x m k).length := by omega
        have co := HO.out.cellAt hlr.symm k hkr
        have ob := HBD.out k hk _ (List.getElem_mem hkr)
        have hog : (rvTo N l x m k).getD k 0 = (rvTo N l x m k)[k] := getD_at _ k hkr
        have hkm : k < m.length := by have := HML.out; omega
        have cm := cells_below hc2 hb2 Br (Nat.le_refl _) k hkm
        have im := fun W => hix2 W k hkm
        have mb := HMB.out k hkm
        have hmg : m.getD k 0 = m[k] := getD_at _ k hkm
        have hcb := capN_bd N l (rvTo N l x m k) k
        have hnx : rvTo N l x m (k + 1) = if (rvTo N l x m k).getD k 0 < m.getD k 0 then (rvTo N l x m k).set k (min ((rvTo N l x m k).getD k 0 + capN N l (rvTo N l x m k) k) (m.getD k 0)) else rvTo N l x m k := rfl
        rw [hog, hmg] at hnx
        have hcl := fun (W : World) (h1 : Ints W (.slice a l.length c) l) (h2 : Ints W (.slice (some ⟨g, 0, none⟩) x.length q) (rvTo N l x m k)) => capacityI_any W N _ l h1 _ _ h2 k (by have := HXL.out; omega)
        obtain ⟨C, hC⟩ : ∃ C, C = capN N l (rvTo N l x m k) k := ⟨_, rfl⟩
        obtain ⟨ov, hov⟩ : ∃ ov, ov = (rvTo N l x m k)[k] := ⟨_, rfl⟩
        obtain ⟨mv, hmv⟩ : ∃ mv, mv = m[k] := ⟨_, rfl⟩
        simp only [← hC] at hcl
        rw [← hC, ← hov, ← hmv] at hnx
        rw [← hC] at hcb
        rw [← hov] at co ob
        rw [← hmv] at cm mb
        have HCL := Lib.hid hcl
        have HNX := Lib.hid hnx
        have HLR := Lib.hid hlr
        have fo := HO.out.frozenAt hlr.symm k
        have G := Kr.cell
        clear hcl hnx hlr hC hov hmv hog hmg hkr hc2 hix2
        by_cases hlm : ov < mv
        · have HLM := Lib.hid hlm
          go_wp2
          go_quiet (fail)
          go_wp2_with fail
          refine (HCL.out _ (hv.below (Br.drewN' _) (Nat.le_refl _)) (HO.out.drewN _).ints).mono ?_
          rintro e' w5 ⟨rfl, b5⟩
          have K5 := (Kr.drewN nq).keep b5
          have o5 := (HO.out.drewN nq).keep b5
          have B5 := (Br.drewN' nq).after b5 (Br.drewN' nq).size
          have co5 := keep b5 (show (wr.drewN nq).cell? ⟨g, k, none⟩ = some (.int .i64 ov) from co)
          have cm5 := keep b5 (show (wr.drewN nq).cell? ⟨bq, off2 + k, none⟩ = some (.int .i64 mv) from cm)
          have fo5 := o5.frozenAt HLR.out.symm k
          have hwc : IntKind.i64.wrap (ov + C) = ov + C := IntWalk.i64_in _ ⟨by omega, by omega⟩
          have HO5 := Lib.hid o5
          clear co cm fo G o5
          go_wp2
          go_region
          all_goals go_wp2
          go_roundw
          case rel =>
            have S : ∀ z, OwnI 3 w.heap.size ((w5.drewN z).setCell ⟨g, k, none⟩ (.int .i64 (if mv < ov + C then mv else ov + C))) (.slice (some ⟨g, 0, none⟩) x.length q) (rvTo N l x m (k + 1)) ∧ Blk ((w5.drewN z).setCell ⟨g, k, none⟩ (.int .i64 (if mv < ov + C then mv else ov + C))) w.heap.size 27 #[.int .i64 (N : Int), .slice a l.length c] ∧ Below w.heap.size w ((w5.drewN z).setCell ⟨g, k, none⟩ (.int .i64 (if mv < ov + C then mv else ov + C))) := by
              intro z
              have hmin : (if mv < ov + C then mv else ov + C) = min (ov + C) mv := by split <;> omega
              rw [hmin]
              have s1 := (HO5.out.drewN z).stored HLR.out.symm k (min (ov + C) mv) ⟨by omega, by omega⟩
              rw [HNX.out, if_pos HLM.out]
              exact ⟨s1.1, (K5.drewN z).far (by show w.heap.size ≠ g; omega) _, (B5.drewN' z).grown s1.2 (B5.drewN' z).size (fun q hq => by have := Option.some.inj hq; omega)⟩
            exact ⟨k + 1, by omega, by go_num, (S _).1, HGW.out, (S _).2.1, (S _).2.2⟩
          case measure => simp [intOf]; omega
        · have HLM := Lib.hid hlm
          go_wp2
          go_quiet (fail)
          go_wp2
          go_roundw
          case rel => exact ⟨k + 1, by omega, by go_num, by rw [HNX.out, if_neg (by have := HLM.out; omega)]; exact HO.out.drewN _, HGW.out, Kr.drewN _, Br.drewN' _⟩
          case measure => simp [intOf]; omega
    · have hlt2 : ¬ (k : Int) < (x.length : Int) := by omega
      have hkl : k = x.length := by omega
      have HK := Lib.hid hkl
      clear hkl
      go_wp2
      go_ret2
      have ho := HO.out
      rw [HK.out] at ho
      exact ⟨p, x.length, q, by rw [HX.out.1]; rfl, by rw [HX.out.2]; exact ho, Br⟩
end Go.Proofs.YtelmokapdkepbaaGreatDoor
end
section
namespace Go.Proofs.YtelmokapdkepbaaGreatDoor
open Go.RowKit Go.G5

set_option maxHeartbeats 2000000 in
set_option maxRecDepth 100000 in
theorem raiseS_any (w : World) (n : Int) (v : Value) (l : List Int) (hv : Ints w v l) (hl : l.length ≤ 1048576) (u : Value) (x : List Int) (hu : Ints w u x) (t : Value) (m : List Int) (ht : Ints w t m) :
    Calls Tryz.prog 74 #[.agg #[.int .i64 n, v], u, t] w fun e' w' => ∃ ad i c, e' = .returned (.tuple #[.slice ad i c, .bool (raisB n l x m)]) ∧ OwnI 3 w.heap.size w' (.slice ad i c) (rvL n l x m) ∧ Below w.heap.size w w' := by
  obtain ⟨a, c, rfl⟩ := hv.shape
  obtain ⟨b, cu, rfl⟩ := hu.shape
  obtain ⟨bt, bq, off2, ct, rfl, hlen2, hix2, hc2, hb2⟩ := ht.view Tryz.prog 22 3 Tryz.underlying22 intElem
  obtain ⟨V, hV⟩ : ∃ V, V = w.alloc (.cells #[.int .i64 n, .slice a l.length c] 27) := ⟨_, rfl⟩
  have B : Below w.heap.size w V := by rw [hV]; exact bl1 _ _
  have K : Blk V w.heap.size 27 #[.int .i64 n, .slice a l.length c] := by rw [hV]; exact Blk.new _ _ _
  go_enter Tryz.func74, Tryz.ntmps74
  go_wp2_with fail
  rw [← hV]
  clear hV
  refine (isSubS_any n l _ V (hv.below B (Nat.le_refl _)) hl).mono ?_
  rintro e' w1 ⟨rfl, b1⟩
  have K := K.keep b1
  have B := B.after b1 B.size
  have G := K.cell
  cases hs : subB n l with
  | false =>
    have hx : raisB n l x m = false := by unfold raisB; rw [hs]; rfl
    have hy : rvL n l x m = [] := by unfold rvL; rw [hx]; rfl
    have HX := Lib.hid (And.intro hx hy)
    clear hx hy hs
    go_wp2
    go_ret2
    exact ⟨some ⟨w1.heap.size, 0, none⟩, 0, 0, by rw [HX.out.1]; rfl, by rw [HX.out.2]; exact OwnI.lit0 _ B.size, B.after (bl1 _ _) B.size⟩
  | true =>
  go_wp2_with fail
  clear G
  refine (isBelowS_any w1 n _ l (hv.below B (Nat.le_refl _)) _ x (hu.below B (Nat.le_refl _))).mono ?_
  rintro e' w2 ⟨rfl, b2⟩
  have K := K.keep b2
  have B := B.after b2 B.size
  have G := K.cell
  cases hb : belB n l x with
  | false =>
    have hx : raisB n l x m = false := by unfold raisB; rw [hb]; simp
    have hy : rvL n l x m = [] := by unfold rvL; rw [hx]; rfl
    have HX := Lib.hid (And.intro hx hy)
    clear hx hy hs hb
    go_wp2
    go_ret2
    exact ⟨some ⟨w2.heap.size, 0, none⟩, 0, 0, by rw [HX.out.1]; rfl, by rw [HX.out.2]; exact OwnI.lit0 _ B.size, B.after (bl1 _ _) B.size⟩
  | true =>
  go_wp2_with fail
  clear G
  refine (l8Vector_any m _ w2 (ht.below B (Nat.le_refl _))).mono ?_
  rintro e' w3 ⟨rfl, rfl⟩
  have G := K.cell
  have HN := Lib.hid (show (x.length : Int) = n ∧ n ≤ 5 from by
    obtain ⟨N, hN, hN5, _, _, hxN, _, _, _⟩ := bel_fun hb
    exact ⟨by omega, by omega⟩)
  cases hl8 : (allIn m (-5000) 5000 && decide (m.length ≤ 5)) with
  | false =>
    have hlo : isLongB n m = false := by
      unfold isLongB
      cases hal : allIn m (-5000) 5000 with
      | false => simp
      | true =>
        rw [hal, Bool.true_and] at hl8
        have := of_decide_eq_false hl8
        have := HN.out
        rw [decide_eq_false (by omega)]; rfl
    have hx : raisB n l x m = false := by unfold raisB; rw [hlo]; simp
    have hy : rvL n l x m = [] := by unfold rvL; rw [hx]; rfl
    have HX := Lib.hid (And.intro hx hy)
    clear hx hy hs hb hlo
    go_wp2
    go_ret2
    exact ⟨some ⟨w2.heap.size, 0, none⟩, 0, 0, by rw [HX.out.1]; rfl, by rw [HX.out.2]; exact OwnI.lit0 _ B.size, B.after (bl1 _ _) B.size⟩
  | true =>
  by_cases hml : m.length = x.length
  · have hlo : isLongB n m = true := by
      unfold isLongB
      rw [(Bool.and_eq_true_iff.1 hl8).1, decide_eq_true (by have := HN.out; omega)]
      rfl
    have hne : ((m.length : Int) != (x.length : Int)) = false := by simp [hml]
    have hx : raisB n l x m = true := by unfold raisB; rw [hs, hb, hlo]; rfl
    clear HN hl8 hml
    have hy : rvL n l x m = rvTo n l x m x.length := by unfold rvL; rw [hx]; rfl
    obtain ⟨N, rfl, hN5, hxl, hml, hxb, hmb⟩ := rais_fun hx
    have HBD := Lib.hid (rvTo_bd N l x m hml hxb hmb)
    have HMB := Lib.hid hmb
    have HX := Lib.hid (And.intro hx hy)
    have HML := Lib.hid hml
    have HXL := Lib.hid hxl
    clear hx hy hs hb hlo hxb hmb hml hxl
    have hu2 := hu.below B (Nat.le_refl _)
    have hx5 : x.length ≤ 5 := by have := HXL.out; omega
    go_wp2_with (at_builtin; (refine wpList_appendS rfl _ _ _ rfl 3 Tryz.underlying22 intElem w2.heap.size _ [] rfl (OwnI.lit0 w2 (Nat.le_refl _)) _ x rfl (hu2.alloc _) (by simp; omega) (by simp) ?_); intro v' w4 o hgr; obtain ⟨p, i, q, rfl⟩ := o.shape3)
    have b4 : Below w2.heap.size w2 w4 := (bl1 w2 (.cells #[] 3)).grown hgr (by simp) (fun k hk => by
      have hk' : some w2.heap.size = some k := hk
      exact Nat.le_of_eq (Option.some.inj hk'))
    have o : OwnI 3 w2.heap.size w4 (.slice p i q) x := by simpa using o
    clear hgr hx5 hu2
    have zk := K.lt
    have hgw : ∀ g, (Value.slice p i q).ownBlock = some g → w.heap.size < g := fun g h => by have := (o.lt g h).1; omega
    have K := K.keep b4
    have o := o.mono (B' := w.heap.size) B.size
    have B := B.after b4 B.size
    have hi : i = x.length := by
      obtain ⟨_, _, h⟩ := o.shape
      injection h
    subst hi
    go_loopw [9] (fun i wr => ∃ k : Nat, k ≤ x.length ∧ i = .int .i64 k ∧ OwnI 3 w.heap.size wr (.slice p x.length q) (rvTo N l x m k) ∧ (∀ g, (Value.slice p x.length q).ownBlock = some g → w.heap.size < g) ∧ Blk wr w.heap.size 27 #[.int .i64 (N : Int), .slice a l.length c] ∧ Below w.heap.size w wr) (fun i _ => x.length - (intOf i).toNat)
    case atStart => exact ⟨0, Nat.zero_le _, rfl, o, hgw, K, B⟩
    case round =>
      clear hgw
      obtain ⟨k, hk, rfl, ow, hgw, Kr, Br⟩ := hrel
      clear o K B
      have HO := Lib.hid ow
      have HGW := Lib.hid hgw
      clear ow hgw
      by_cases hlt : k < x.length
      · have hlt2 : (k : Int) < (x.length : Int) := by omega
        have hlr := rvTo_len N l x m k
        rcases HO.out.cases with ⟨h1, h2⟩ | ⟨g, cap, h1, hg1, hg2⟩
        · rw [h2] at hlr; simp at hlr; omega
        · injection h1 with h1 h3 h4
          subst h1 h4
          have hgb := HGW.out g rfl
          clear h3
          have hkr : k < (rvTo N l x m k).length := by omega
          have co := HO.out.cellAt hlr.symm k hkr
          have ob := HBD.out k hk _ (List.getElem_mem hkr)
          have hog : (rvTo N l x m k).getD k 0 = (rvTo N l x m k)[k] := getD_at _ k hkr
          have hkm : k < m.length := by have := HML.out; omega
          have cm := cells_below hc2 hb2 Br (Nat.le_refl _) k hkm
          have im := fun W => hix2 W k hkm
          have mb := HMB.out k hkm
          have hmg : m.getD k 0 = m[k] := getD_at _ k hkm
          have hcb := capN_bd N l (rvTo N l x m k) k
          have hnx : rvTo N l x m (k + 1) = if (rvTo N l x m k).getD k 0 < m.getD k 0 then (rvTo N l x m k).set k (min ((rvTo N l x m k).getD k 0 + capN N l (rvTo N l x m k) k) (m.getD k 0)) else rvTo N l x m k := rfl
          rw [hog, hmg] at hnx
          have hcl := fun (W : World) (h1 : Ints W (.slice a l.length c) l) (h2 : Ints W (.slice (some ⟨g, 0, none⟩) x.length q) (rvTo N l x m k)) => capacityS_any W N _ l h1 _ _ h2 k (by have := HXL.out; omega)
          obtain ⟨C, hC⟩ : ∃ C, C = capN N l (rvTo N l x m k) k := ⟨_, rfl⟩
          obtain ⟨ov, hov⟩ : ∃ ov, ov = (rvTo N l x m k)[k] := ⟨_, rfl⟩
          obtain ⟨mv, hmv⟩ : ∃ mv, mv = m[k] := ⟨_, rfl⟩
          simp only [← hC] at hcl
          rw [← hC, ← hov, ← hmv] at hnx
          rw [← hC] at hcb
          rw [← hov] at co ob
          rw [← hmv] at cm mb
          have HCL := Lib.hid hcl
          have HNX := Lib.hid hnx
          have HLR := Lib.hid hlr
          have fo := HO.out.frozenAt hlr.symm k
          have G := Kr.cell
          clear hcl hnx hlr hC hov hmv hog hmg hkr hc2 hix2
          go_wp2_with fail
          refine (HCL.out _ (hv.below Br (Nat.le_refl _)) HO.out.ints).mono ?_
          rintro e' w5 ⟨rfl, b5⟩
          have K5 := Kr.keep b5
          have o5 := HO.out.keep b5
          have B5 := Br.after b5 Br.size
          have co5 := keep b5 co
          have cm5 := keep b5 cm
          have fo5 := o5.frozenAt HLR.out.symm k
          have hwc : IntKind.i64.wrap (ov + C) = ov + C := IntWalk.i64_in _ ⟨by omega, by omega⟩
          have HO5 := Lib.hid o5
          clear co cm fo G o5
          by_cases hlm : ov < mv
          · have HLM := Lib.hid hlm
            go_wp2
            go_quiet (fail)
            go_wp2
            go_region
            all_goals go_wp2
            go_roundw
            case rel =>
              have S : ∀ z, OwnI 3 w.heap.size ((w5.drewN z).setCell ⟨g, k, none⟩ (.int .i64 (if ov + C < mv then ov + C else mv))) (.slice (some ⟨g, 0, none⟩) x.length q) (rvTo N l x m (k + 1)) ∧ Blk ((w5.drewN z).setCell ⟨g, k, none⟩ (.int .i64 (if ov + C < mv then ov + C else mv))) w.heap.size 27 #[.int .i64 (N : Int), .slice a l.length c] ∧ Below w.heap.size w ((w5.drewN z).setCell ⟨g, k, none⟩ (.int .i64 (if ov + C < mv then ov + C else mv))) := by
                intro z
                have hmin : (if ov + C < mv then ov + C else mv) = min (ov + C) mv := by split <;> omega
                rw [hmin]
                have s1 := (HO5.out.drewN z).stored HLR.out.symm k (min (ov + C) mv) ⟨by omega, by omega⟩
                rw [HNX.out, if_pos HLM.out]
                exact ⟨s1.1, (K5.drewN z).far (by show w.heap.size ≠ g; omega) _, (B5.drewN' z).grown s1.2 (B5.drewN' z).size (fun q hq => by have := Option.some.inj hq; omega)⟩
              exact ⟨k + 1, by omega, by go_num, (S _).1, HGW.out, (S _).2.1, (S _).2.2⟩
            case measure => simp [intOf]; omega
          · have HLM := Lib.hid hlm
            go_wp2
            go_quiet (fail)
            go_wp2
            go_roundw
            case rel => exact ⟨k + 1, by omega, by go_num, by rw [HNX.out, if_neg (by have := HLM.out; omega)]; exact HO5.out.drewN _, HGW.out, K5.drewN _, B5.drewN' _⟩
            case measure => simp [intOf]; omega
      · have hlt2 : ¬ (k : Int) < (x.length : Int) := by omega
        have hkl : k = x.length := by omega
        have HK := Lib.hid hkl
        clear hkl
        go_wp2
        go_ret2
        have ho := HO.out
        rw [HK.out] at ho
        exact ⟨p, x.length, q, by rw [HX.out.1]; rfl, by rw [HX.out.2]; exact ho, Br⟩
  · have hlo : isLongB n m = false := by
      unfold isLongB
      rw [decide_eq_false (by have := HN.out; omega)]; rfl
    have hne : ((m.length : Int) != (x.length : Int)) = true := by simp; omega
    have hx : raisB n l x m = false := by unfold raisB; rw [hlo]; simp
    have hy : rvL n l x m = [] := by unfold rvL; rw [hx]; rfl
    have HX := Lib.hid (And.intro hx hy)
    clear hx hy hs hb hlo hml
    go_wp2
    go_ret2
    exact ⟨some ⟨w2.heap.size, 0, none⟩, 0, 0, by rw [HX.out.1]; rfl, by rw [HX.out.2]; exact OwnI.lit0 _ B.size, B.after (bl1 _ _) B.size⟩
end Go.Proofs.YtelmokapdkepbaaGreatDoor
end
