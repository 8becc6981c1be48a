/- Dual vectors. -/
import Derived.Test.YtelmokapdkepbaaGreatDoorQ18
import Derived.Deep.RegionHeld3
import Derived.Deep.RegionLaw
import Derived.Deep.OwnRows
section
namespace Go.G5
open Go.RowKit
theorem made_own {P : Program} (t E : TypeId) (ht : P.underlying t = some (.slice E)) (hE : IntElem P E) (n : Nat) (hn : n ≤ 17592186044416) (w : World) :
    (Instr.makeSlice t (.int .i64 (n : Int)) (.int .i64 (n : Int))).run P w = .ok (.slice (some ⟨w.heap.size, 0, none⟩) n n) (w.alloc (.cells (madeCells #[.int .i64 0] n) E)) ∧ OwnI E w.heap.size (w.alloc (.cells (madeCells #[.int .i64 0] n) E)) (.slice (some ⟨w.heap.size, 0, none⟩) n n) (List.replicate n 0) := by
  obtain ⟨i, hi, hz, h1, h8⟩ := hE.get
  obtain ⟨w', hrun, r1, r2⟩ := run_make_full (P := P) w w.heap.size t E i (.int .i64 0) 1 ht hi hz h1 .i64 .i64 n (by rw [h8]; omega) (by unfold maxLen; omega) (Nat.le_refl _)
  have h2 := run_make_row (P := P) t E i (.int .i64 0) ht hi hz h1 rfl .i64 .i64 n (by rw [h8]; omega) (by omega) w
  refine ⟨h2, ?_⟩
  rw [hrun] at h2
  injection h2 with _ h3
  subst h3
  refine ⟨?_, by intro y hy; have := List.eq_of_mem_replicate hy; subst this; exact ⟨by omega, by omega⟩⟩
  have e : (madeCells (Value.int IntKind.i64 0).cells (n * 1)).toList = (List.replicate n (0 : Int)).map (Value.int .i64) := by
    rw [show (Value.int IntKind.i64 0).cells = #[Value.int .i64 0] from rfl, toList_madeCells_one]; simp
  rw [e] at r1
  simpa using r1
end Go.G5
namespace Go.Proofs.YtelmokapdkepbaaGreatDoor
open Go.RowKit Go.G5

def duB (n : Int) (l : List Int) : Bool := isGrB n l && subB n l
def lowL (n : Int) : List Int := List.replicate n.toNat (-2000)
def zerL (n : Int) : List Int := List.replicate n.toNat 0
def dvB (n : Int) (l : List Int) : Bool := duB n l && raisB n l (lowL n) (zerL n)
def dvL (n : Int) (l : List Int) : List Int := if duB n l then rvL n l (lowL n) (zerL n) else []

set_option maxHeartbeats 2000000 in
set_option maxRecDepth 100000 in
theorem dualI_any (w : World) (n : Int) (v : Value) (l : List Int) (hv : Ints w v l) (hl : l.length ≤ 1048576) :
    Calls Tryz.prog 38 #[.agg #[.int .i64 n, v]] w fun e' w' => ∃ ad i c, e' = .returned (.tuple #[.slice ad i c, .bool (dvB n l)]) ∧ OwnI 3 w.heap.size w' (.slice ad i c) (dvL n l) ∧ Below w.heap.size w w' := by
  obtain ⟨a, c, rfl⟩ := hv.shape
  obtain ⟨V, hV⟩ : ∃ V, V = w.alloc (.cells #[.int .i64 n, .slice a l.length c] 27) := ⟨_, rfl⟩
  have B : Below w.heap.size w V := by rw [hV]; exact bl1 _ _
  have K : Blk V w.heap.size 27 #[.int .i64 n, .slice a l.length c] := by rw [hV]; exact Blk.new _ _ _
  go_enter Tryz.func38, Tryz.ntmps38
  go_wp2_with fail
  rw [← hV]
  clear hV
  refine (isGrI_any n l _ V (hv.below B (Nat.le_refl _))).mono ?_
  rintro e' w1 ⟨rfl, b1⟩
  have K := K.keep b1
  have B := B.after b1 B.size
  have G := K.cell
  cases hg : isGrB n l with
  | false =>
    have hd : duB n l = false := by unfold duB; rw [hg]; rfl
    have hx : dvB n l = false := by unfold dvB; rw [hd]; rfl
    have hy : dvL n l = [] := by unfold dvL; rw [hd]; rfl
    have HX := Lib.hid (And.intro hx hy)
    clear hx hy hg hd
    go_wp2
    go_ret2
    exact ⟨none, 0, 0, by rw [HX.out.1]; rfl, by rw [HX.out.2]; exact OwnI.nil _ _ _, B⟩
  | true =>
  go_wp2_with fail
  clear G
  refine (isSubI_any n l _ w1 (hv.below B (Nat.le_refl _)) hl).mono ?_
  rintro e' w2 ⟨rfl, b2⟩
  have K := K.keep b2
  have B := B.after b2 B.size
  have G := K.cell
  cases hs : subB n l with
  | false =>
    have hd : duB n l = false := by unfold duB; rw [hs]; simp
    have hx : dvB n l = false := by unfold dvB; rw [hd]; rfl
    have hy : dvL n l = [] := by unfold dvL; rw [hd]; rfl
    have HX := Lib.hid (And.intro hx hy)
    clear hx hy hg hd hs
    go_wp2
    go_ret2
    exact ⟨none, 0, 0, by rw [HX.out.1]; rfl, by rw [HX.out.2]; exact OwnI.nil _ _ _, B⟩
  | true =>
  have hd : duB n l = true := by unfold duB; rw [hg, hs]; rfl
  have hx : dvB n l = raisB n l (lowL n) (zerL n) := by unfold dvB; rw [hd]; rfl
  have hy : dvL n l = rvL n l (lowL n) (zerL n) := by unfold dvL; rw [hd]; rfl
  obtain ⟨N, hN, hN5⟩ : ∃ N : Nat, n = N ∧ N ≤ 5 := by
    obtain ⟨N, h1, h2, _⟩ := fun_nat (grOk hg)
    exact ⟨N, h1, h2⟩
  subst hN
  have hlow : lowL (N : Int) = List.replicate N (-2000) := by unfold lowL; simp
  have hzer : zerL (N : Int) = List.replicate N 0 := by unfold zerL; simp
  have HX := Lib.hid (And.intro hx (And.intro hy (And.intro hlow hzer)))
  clear hx hy hd hg hs hlow hzer
  go_wp2_with (at_make; refine wpList_makeI rfl _ _ _ rfl 3 Tryz.underlying22 intElem N _ _ rfl rfl rfl rfl (by omega) ?_; intro w3 hown hgr)
  have b3 : Below w2.heap.size w2 w3 := (Below.refl _ _).grown hgr (Nat.le_refl _) (by simp)
  have zk := K.lt
  have K := K.keep b3
  have hown := hown.mono (B' := w.heap.size + 1) zk
  have B := B.after b3 B.size
  obtain ⟨g, hg2⟩ : ∃ g, g = w2.heap.size := ⟨_, rfl⟩
  rw [← hg2] at hown ⊢
  clear hg2 hgr b3 G
  obtain ⟨lo, hlo⟩ : ∃ lo : List Int, lo = List.replicate N (-2000) := ⟨_, rfl⟩
  have hlen : lo.length = N := by rw [hlo]; simp
  have hat : ∀ k, (h : k < lo.length) → lo[k] = -2000 := by subst hlo; intro k h; simp
  have e0 : List.replicate N (0 : Int) = lo.take 0 ++ List.replicate (lo.length - 0) 0 := by rw [hlen]; simp
  rw [e0] at hown
  have HLO := Lib.hid (And.intro hlo (And.intro hlen hat))
  clear hlo hlen hat e0
  go_loopw [19] (fun i wr => ∃ k : Nat, k ≤ N ∧ i = .int .i64 k ∧ OwnI 3 (w.heap.size + 1) wr (.slice (some ⟨g, 0, none⟩) N N) (lo.take k ++ List.replicate (lo.length - k) 0) ∧ Blk wr w.heap.size 27 #[.int .i64 (N : Int), .slice a l.length c] ∧ Below w.heap.size w wr) (fun i _ => N - (intOf i).toNat)
  case atStart => exact ⟨0, Nat.zero_le _, rfl, hown, K, B⟩
  case round =>
    obtain ⟨k, hk, rfl, o, Kr, Br⟩ := hrel
    clear hown K B
    have HO := Lib.hid o
    clear o
    have hl2 := fill_len lo k (by rw [HLO.out.2.1]; exact hk)
    rw [HLO.out.2.1] at hl2 HO
    by_cases hlt : k < N
    · have hlt2 : (k : Int) < (N : Int) := by omega
      have hcell : ∃ q, wr.cell? ⟨g, k, none⟩ = some q := ⟨_, HO.out.cellAt hl2.symm k (by omega)⟩
      obtain ⟨q, hcell⟩ := hcell
      have hfr := HO.out.frozenAt hl2.symm k
      have hgb := (HO.out.lt g rfl).1
      have st := HO.out.stored hl2.symm k (-2000) ⟨by omega, by omega⟩
      have hll : k < lo.length := by rw [HLO.out.2.1]; exact hlt
      have fs := fill_step lo k hll
      rw [HLO.out.2.2 k hll, HLO.out.2.1] at fs
      rw [fs] at st
      have B1 := Br.grown st.2 Br.size (fun q hq => by have := Option.some.inj hq; omega)
      have K1 := Kr.far (p := ⟨g, k, none⟩) (by show w.heap.size ≠ g; omega) (.int .i64 (-2000))
      have HST := Lib.hid st.1
      clear st fs hl2 hll
      go_wp2
      go_roundw
      case rel => exact ⟨k + 1, by omega, by go_num, by rw [HLO.out.2.1]; exact HST.out, K1, B1⟩
      case measure => simp [intOf]; omega
    · have hlt2 : ¬ (k : Int) < (N : Int) := by omega
      have hkn : k = N := by omega
      have o := HO.out
      rw [hkn, Nat.sub_self, List.take_of_length_le (by rw [HLO.out.2.1]; exact Nat.le_refl _)] at o
      simp only [List.replicate_zero, List.append_nil] at o
      rw [HLO.out.1, ← HX.out.2.2.1] at o
      have od : OwnI 3 (w.heap.size + 1) wr.drew (.slice (some ⟨g, 0, none⟩) N N) (lowL (N : Int)) := o.drewN 1
      have Kd : Blk wr.drew w.heap.size 27 #[.int .i64 (N : Int), .slice a l.length c] := Kr
      have Bd : Below w.heap.size w wr.drew := Br.drew
      have hvd : Ints wr.drew (.slice a l.length c) l := hv.below Bd (Nat.le_refl _)
      have HZ := Lib.hid HX.out.2.2.2
      have G := Kr.cell
      have Gd := Kd.cell
      have HCL := Lib.hid (fun (W : World) (t : Value) (h : Below wr.drew.heap.size wr.drew W) (ht : Ints W t (zerL (N : Int))) => raiseI_any W N _ l (hvd.keep h) hl _ _ (od.keep h).ints t _ ht)
      obtain ⟨O, hO⟩ : ∃ O, O = Obj.cells (madeCells #[.int .i64 0] N) 3 := ⟨_, rfl⟩
      have hmk : ∀ W, (Instr.makeSlice 22 (.int .i64 (N : Int)) (.int .i64 (N : Int))).run Tryz.prog W = .ok (.slice (some ⟨W.heap.size, 0, none⟩) N N) (W.alloc O) := by
        rw [hO]; exact fun W => (made_own 22 3 Tryz.underlying22 intElem N (by omega) W).1
      have hmo : OwnI 3 wr.heap.size (wr.alloc O) (.slice (some ⟨wr.heap.size, 0, none⟩) N N) (List.replicate N 0) := by
        rw [hO]; exact (made_own 22 3 Tryz.underlying22 intElem N (by omega) wr).2
      have HMO := Lib.hid (hmo.drewN 1)
      have K5 : Blk (wr.alloc O) w.heap.size 27 #[.int .i64 (N : Int), .slice a l.length c] := Kr.alloc O
      have G5 := K5.cell
      have b5 : Below wr.drew.heap.size wr.drew (wr.alloc O).drew := bl1 wr.drew O
      have B5 : Below w.heap.size w (wr.alloc O).drew := Bd.after b5 Bd.size
      clear o hkn hO hmo
      go_wp2_with fail
      go_region_law
        (go_simp; go_at_call 89; refine (HCL.out (wr.alloc O).drew _ b5 (by rw [HZ.out]; exact HMO.out.ints)).mono ?_; rintro e' w6 ⟨p6, i6, q6, rfl, o6, b6⟩)
      all_goals
        go_wp2
        go_ret2
        exact ⟨p6, i6, q6, by rw [HX.out.1]; rfl, by rw [HX.out.2.1]; exact o6.mono B5.size, B5.after b6 B5.size⟩
set_option maxHeartbeats 2000000 in
set_option maxRecDepth 100000 in
theorem dualS_any (w : World) (n : Int) (v : Value) (l : List Int) (hv : Ints w v l) (hl : l.length ≤ 1048576) :
    Calls Tryz.prog 24 #[.agg #[.int .i64 n, v]] w fun e' w' => ∃ ad i c, e' = .returned (.tuple #[.slice ad i c, .bool (dvB n l)]) ∧ OwnI 3 w.heap.size w' (.slice ad i c) (dvL n l) ∧ Below w.heap.size w w' := by
  obtain ⟨a, c, rfl⟩ := hv.shape
  obtain ⟨V, hV⟩ : ∃ V, V = w.alloc (.cells #[.int .i64 n, .slice a l.length c] 27) := ⟨_, rfl⟩
  have B : Below w.heap.size w V := by rw [hV]; exact bl1 _ _
  have K : Blk V w.heap.size 27 #[.int .i64 n, .slice a l.length c] := by rw [hV]; exact Blk.new _ _ _
  go_enter Tryz.func24, Tryz.ntmps24
  go_wp2_with fail
  rw [← hV]
  clear hV
  refine (isGrS_any n l _ V (hv.below B (Nat.le_refl _))).mono ?_
  rintro e' w1 ⟨rfl, b1⟩
  have K := K.keep b1
  have B := B.after b1 B.size
  have G := K.cell
  cases hg : isGrB n l with
  | false =>
    have hd : duB n l = false := by unfold duB; rw [hg]; rfl
    have hx : dvB n l = false := by unfold dvB; rw [hd]; rfl
    have hy : dvL n l = [] := by unfold dvL; rw [hd]; rfl
    have HX := Lib.hid (And.intro hx hy)
    clear hx hy hg hd
    go_wp2
    go_ret2
    exact ⟨some ⟨w1.heap.size, 0, none⟩, 0, 0, by rw [HX.out.1]; rfl, by rw [HX.out.2]; exact OwnI.lit0 _ B.size, B.after (bl1 _ _) B.size⟩
  | true =>
  go_wp2_with fail
  clear G
  refine (isSubS_any n l _ w1 (hv.below B (Nat.le_refl _)) hl).mono ?_
  rintro e' w2 ⟨rfl, b2⟩
  have K := K.keep b2
  have B := B.after b2 B.size
  have G := K.cell
  cases hs : subB n l with
  | false =>
    have hd : duB n l = false := by unfold duB; rw [hs]; simp
    have hx : dvB n l = false := by unfold dvB; rw [hd]; rfl
    have hy : dvL n l = [] := by unfold dvL; rw [hd]; rfl
    have HX := Lib.hid (And.intro hx hy)
    clear hx hy hg hd hs
    go_wp2
    go_ret2
    exact ⟨some ⟨w2.heap.size, 0, none⟩, 0, 0, by rw [HX.out.1]; rfl, by rw [HX.out.2]; exact OwnI.lit0 _ B.size, B.after (bl1 _ _) B.size⟩
  | true =>
  have hd : duB n l = true := by unfold duB; rw [hg, hs]; rfl
  have hx : dvB n l = raisB n l (lowL n) (zerL n) := by unfold dvB; rw [hd]; rfl
  have hy : dvL n l = rvL n l (lowL n) (zerL n) := by unfold dvL; rw [hd]; rfl
  obtain ⟨N, hN, hN5⟩ : ∃ N : Nat, n = N ∧ N ≤ 5 := by
    obtain ⟨N, h1, h2, _⟩ := fun_nat (grOk hg)
    exact ⟨N, h1, h2⟩
  subst hN
  have hlow : lowL (N : Int) = List.replicate N (-2000) := by unfold lowL; simp
  have hzer : zerL (N : Int) = List.replicate N 0 := by unfold zerL; simp
  have HX := Lib.hid (And.intro hx (And.intro hy (And.intro hlow hzer)))
  clear hx hy hd hg hs hlow hzer
  obtain ⟨W0, hW0⟩ : ∃ W, W = (w2.alloc (.cells #[] 3)).alloc (.cells #[] 3) := ⟨_, rfl⟩
  have b0 : Below w2.heap.size w2 W0 := by rw [hW0]; exact bl2 _ _ _
  have zk := K.lt
  have ox : OwnI 3 (w.heap.size + 1) W0 (.slice (some ⟨w2.heap.size, 0, none⟩) 0 0) (List.replicate 0 (-2000)) := by rw [hW0]; exact (OwnI.lit0 w2 zk).alloc _
  have oz : OwnI 3 (w.heap.size + 1) W0 (.slice (some ⟨w2.heap.size + 1, 0, none⟩) 0 0) (List.replicate 0 0) := by rw [hW0]; exact (OwnI.lit0' w2 _).mono zk
  have ap : Apart (.slice (some ⟨w2.heap.size, 0, none⟩) 0 0) (.slice (some ⟨w2.heap.size + 1, 0, none⟩) 0 0) := fun k h1 h2 => by
    have e1 : w2.heap.size = k := Option.some.inj h1
    have e2 : w2.heap.size + 1 = k := Option.some.inj h2
    omega
  have K := K.keep b0
  have B := B.after b0 B.size
  go_wp2_with fail
  rw [← hW0]
  clear hW0 b0 G
  go_loopw [4, 5, 6] (fun x z i wr => ∃ (k : Nat) (a1 : Option Addr) (n1 c1 : Nat) (a2 : Option Addr) (n2 c2 : Nat), k ≤ N ∧ i = .int .i64 k ∧ x = .slice a1 n1 c1 ∧ z = .slice a2 n2 c2 ∧ OwnI 3 (w.heap.size + 1) wr (.slice a1 n1 c1) (List.replicate k (-2000)) ∧ OwnI 3 (w.heap.size + 1) wr (.slice a2 n2 c2) (List.replicate k 0) ∧ Apart (.slice a1 n1 c1) (.slice a2 n2 c2) ∧ Blk wr w.heap.size 27 #[.int .i64 (N : Int), .slice a l.length c] ∧ Below w.heap.size w wr) (fun _ _ i _ => N - (intOf i).toNat)
  case atStart => exact ⟨0, _, _, _, _, _, _, Nat.zero_le _, rfl, rfl, rfl, ox, oz, ap, K, B⟩
  case round =>
    obtain ⟨k, a1, n1, c1, a2, n2, c2, hk, rfl, rfl, rfl, ox', oz', ap', Kr, Br⟩ := hrel
    clear ox oz ap K B
    have G := Kr.cell
    by_cases hlt : k < N
    · have hlt2 : (k : Int) < (N : Int) := by omega
      have zkr := Kr.lt
      go_wp2_with (first
        | (at_builtin; refine wpList_appendN1 rfl _ _ _ rfl 3 Tryz.underlying22 intElem (w.heap.size + 1) (.slice a1 n1 c1) (List.replicate k (-2000)) (-2000) _ rfl rfl (cell_new _ _ _ _ _ rfl) (ox'.alloc _) ⟨by omega, by omega⟩ (by simp; omega) (by simp; omega) ?_; intro v5 w5 o5 g5 h5; obtain ⟨p5, i5, q5, rfl⟩ := o5.shape3; have oz5 := (oz'.alloc (.cells #[.int .i64 (-2000)] 3)).growA g5 ap'; have ap5 := h5.apart ap' (fun q hq => (((oz'.alloc (.cells #[.int .i64 (-2000)] 3))).lt q hq).2); have B5 := (Br.after (bl1 wr (.cells #[.int .i64 (-2000)] 3)) Br.size).grown g5 (by simp; omega) (fun q hq => by have := (ox'.lt q hq).1; omega); have K5 := (Kr.alloc (.cells #[.int .i64 (-2000)] 3)).grow g5 (fun e => by have := (ox'.lt _ e).1; omega); have z5 := K5.lt)
        | (at_builtin; refine wpList_appendN1 rfl _ _ _ rfl 3 Tryz.underlying22 intElem (w.heap.size + 1) (.slice a2 n2 c2) (List.replicate k 0) 0 _ rfl rfl (cell_new _ _ _ _ _ rfl) (oz5.alloc _) ⟨by omega, by omega⟩ (by simp; omega) (by simp; omega) ?_; intro v6 w6 o6 g6 h6; obtain ⟨p6, i6, q6, rfl⟩ := o6.shape3))
      have ox6 := (o5.alloc (.cells #[.int .i64 0] 3)).growA g6 ap5.symm
      have ap6 := (h6.apart ap5.symm (fun q hq => ((o5.alloc (.cells #[.int .i64 0] 3)).lt q hq).2)).symm
      have B6 := (B5.after (bl1 w5 (.cells #[.int .i64 0] 3)) B5.size).grown g6 (by simp; omega) (fun q hq => by have := (oz5.lt q hq).1; omega)
      have K6 := (K5.alloc (.cells #[.int .i64 0] 3)).grow g6 (fun e => by have := (oz5.lt _ e).1; omega)
      go_roundw
      case rel => exact ⟨k + 1, p5, i5, q5, p6, i6, q6, by omega, by go_num, rfl, rfl, by rw [List.replicate_succ']; exact ox6, by rw [List.replicate_succ']; exact o6, ap6, K6, B6⟩
      case measure => simp [intOf]; omega
    · have hlt2 : ¬ (k : Int) < (N : Int) := by omega
      have hkn : k = N := by omega
      rw [hkn, ← HX.out.2.2.1] at ox'
      rw [hkn, ← HX.out.2.2.2] at oz'
      have HO := Lib.hid (And.intro ox' oz')
      clear hkn ox' oz'
      have HCL := Lib.hid (raiseS_any wr N _ l (hv.below Br (Nat.le_refl _)) hl _ _ HO.out.1.ints _ _ HO.out.2.ints)
      go_wp2_with (go_at_call 74; refine HCL.out.mono ?_; rintro e' w6 ⟨p6, i6, q6, rfl, o6, b6⟩)
      go_ret2
      exact ⟨p6, i6, q6, by rw [HX.out.1]; rfl, by rw [HX.out.2.1]; exact o6.mono Br.size, Br.after b6 Br.size⟩
end Go.Proofs.YtelmokapdkepbaaGreatDoor
end
