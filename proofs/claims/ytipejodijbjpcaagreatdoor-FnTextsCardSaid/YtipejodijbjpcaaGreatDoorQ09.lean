/- Violations: the second program. Polymatroids and ranks of matroids, both programs. Raised vectors. -/
import Derived.Test.YtipejodijbjpcaaGreatDoorQ08
section
namespace Go.Proofs.YtipejodijbjpcaaGreatDoor
open Go.RowKit Go.G5


end Go.Proofs.YtipejodijbjpcaaGreatDoor
end
section
namespace Go.Proofs.YtipejodijbjpcaaGreatDoor
open Go.RowKit Go.G5

def polyB (n : Int) (l : List Int) : Bool := (isGrB n l && incB n l) && subB n l
def oneB (l : List Int) (e : Nat) : Bool := !decide ((1 : Int) < l.getD (2 ^ e) 0)
def rankB (n : Int) (l : List Int) : Bool := polyB n l && allTo (oneB l) n.toNat
theorem poly_fun {n : Int} {l : List Int} (h : polyB n l = true) : isFunB n l = true := by
  unfold polyB isGrB at h
  simp only [Bool.and_eq_true] at h
  exact h.1.1.1
set_option maxHeartbeats 1000000 in
theorem polyI_any (n : Int) (l : List Int) (v : Value) (w : World) (hv : Ints w v l) (hl : l.length ≤ 1048576) :
    Calls Tryz.prog 355 #[.agg #[.int .i64 n, v]] w fun e w' => e = .returned (.bool (polyB n l)) ∧ Below w.heap.size w w' := by
  obtain ⟨a, c, rfl⟩ := hv.shape
  have K0 := Blk.new w 32 #[.int .i64 n, .slice a l.length c]
  go_enter Tryz.func355, Tryz.ntmps355
  go_wp2_with fail
  refine (isGrI_any n l _ _ (hv.alloc _)).mono ?_
  rintro e w1 ⟨rfl, hb1⟩
  have K1 := K0.keep hb1
  have B1 : Below w.heap.size w w1 := (bl1 _ _).after hb1 (by simp)
  clear hb1 K0
  cases hs : isGrB n l with
  | false =>
    have hx : polyB n l = false := by unfold polyB; rw [hs]; rfl
    have HX := Lib.hid hx
    clear hx hs
    go_wp2
    go_ret
    exact ⟨by rw [HX.out]; rfl, B1⟩
  | true =>
    have HS := Lib.hid hs
    clear hs
    have G1 := K1.cell
    go_wp2_with fail
    refine (incI_any n l _ _ (hv.below B1 (Nat.le_refl _))).mono ?_
    rintro e w2 ⟨rfl, hb2⟩
    have K2 := K1.keep hb2
    have B2 := B1.after hb2 B1.size
    clear hb2 G1
    cases hy : incB n l with
    | false =>
      have hx : polyB n l = false := by unfold polyB; rw [HS.out, hy]; rfl
      have HX := Lib.hid hx
      clear hx hy
      go_wp2
      go_ret
      exact ⟨by rw [HX.out]; rfl, B2⟩
    | true =>
      have hx : polyB n l = subB n l := by unfold polyB; rw [HS.out, hy]; rfl
      have HX := Lib.hid hx
      clear hx hy
      have G2 := K2.cell
      go_wp2_with fail
      refine (isSubI_any n l _ _ (hv.below B2 (Nat.le_refl _)) hl).mono ?_
      rintro e w3 ⟨rfl, hb3⟩
      go_wp2
      go_ret
      exact ⟨by rw [HX.out]; rfl, B2.after hb3 B2.size⟩
set_option maxHeartbeats 2000000 in
set_option maxRecDepth 100000 in
theorem rankI_any (n : Int) (l : List Int) (v : Value) (w : World) (hv : Ints w v l) (hl : l.length ≤ 1048576) :
    Calls Tryz.prog 320 #[.agg #[.int .i64 n, v]] w fun e w' => e = .returned (.bool (rankB n l)) ∧ Below w.heap.size w w' := by
  have hv0 := hv
  obtain ⟨a, b, off, c, rfl, hlen, hix, hc, hb⟩ := hv.view Tryz.prog 22 3 Tryz.underlying22 intElem
  have K0 := Blk.new w 32 #[.int .i64 n, .slice a l.length c]
  cases hf : polyB n l with
  | false =>
    have hx : rankB n l = false := by unfold rankB; rw [hf]; rfl
    have HX := Lib.hid hx
    have HF := Lib.hid hf
    clear hx hf hc
    go_enter Tryz.func320, Tryz.ntmps320
    go_wp2_with (go_at_call 355; refine (polyI_any n l _ _ (hv0.alloc _) hl).mono ?_; rintro e w1 ⟨rfl, hb1⟩; rw [HF.out])
    go_ret
    exact ⟨ret_bool HX.out.symm, (bl1 _ _).after hb1 (by simp)⟩
  | true =>
    obtain ⟨N, rfl, hN5, hl2, hl32, hlb⟩ := fun_nat (poly_fun hf)
    have hx : rankB N l = allTo (oneB l) N := by unfold rankB; rw [hf]; simp
    have HX := Lib.hid hx
    have HF := Lib.hid hf
    have HL2 := Lib.hid hl2
    have HC := Lib.hid hc
    have HIX := Lib.hid hix
    clear hx hf hl2 hc hix hlb
    go_enter Tryz.func320, Tryz.ntmps320
    go_wp2_with fail
    refine (polyI_any N l _ _ (hv0.alloc _) hl).mono ?_
    rintro e w1 ⟨rfl, hb1⟩
    rw [HF.out]
    have K1 := K0.keep hb1
    have B1 : Below w.heap.size w w1 := (bl1 _ _).after hb1 (by simp)
    have G1 := K1.cell
    have hc1 := cells_below HC.out hb B1 (Nat.le_refl _)
    have HC1 := Lib.hid hc1
    clear K0 hb1 hc1
    go_wp2_with fail
    go_loop [9] (fun i => ∃ k : Nat, k ≤ N ∧ i = .int .i64 k ∧ allTo (oneB l) k = true) (fun i => N - (intOf i).toNat)
    case atStart => exact ⟨0, Nat.zero_le _, rfl, rfl⟩
    case round =>
      obtain ⟨k, hk, rfl, hall⟩ := hrel
      have H := Lib.hid hall
      clear hall
      by_cases hkn : k < N
      · have hp : 2 ^ k < l.length := by rw [HL2.out]; exact Nat.pow_lt_pow_right (by decide) hkn
        have c0 := HC1.out (2 ^ k) hp
        have i0 := fun W => HIX.out W (2 ^ k) hp
        have hcast : ((2 ^ k : Nat) : Int) = (2 : Int) ^ k := by simp
        simp only [hcast] at i0
        have hone : oneB l k = !decide ((1 : Int) < l[2 ^ k]) := by unfold oneB; rw [getD_at l _ hp]
        obtain ⟨x, hx⟩ : ∃ x, x = l[2 ^ k] := ⟨_, rfl⟩
        rw [← hx] at c0 hone
        have HO := Lib.hid hone
        have pk1 : (2 : Int) ^ k ≤ 32 := by rw [← hcast]; omega
        have pk2 := (two_pow k k (Nat.le_refl _)).2
        have wk : IntKind.i64.wrap ((2 : Int) ^ k) = 2 ^ k := by rw [IntKind.wrap_i64]; omega
        clear hone hx hcast hp
        by_cases hgt : (1 : Int) < x
        · have hbad : rankB N l = false := by rw [HX.out]; exact allTo_false hkn (by rw [HO.out, decide_eq_true hgt]; rfl)
          have HBAD := Lib.hid hbad
          clear hbad
          go_wp2
          go_ret
          exact ⟨ret_bool HBAD.out.symm, B1⟩
        · have hu : oneB l k = true := by rw [HO.out, decide_eq_false hgt]; rfl
          have HU := Lib.hid hu
          clear hu
          go_wp2
          go_round
          case rel => exact ⟨k + 1, by omega, by go_num, allTo_succ H.out HU.out⟩
          case measure => simp [intOf]; omega
      · have hkN : k = N := by omega
        subst hkN
        go_wp2
        go_ret
        exact ⟨ret_bool (by rw [HX.out, H.out]), B1⟩

end Go.Proofs.YtipejodijbjpcaaGreatDoor
end
section
namespace Go.Proofs.YtipejodijbjpcaaGreatDoor
open Go.RowKit Go.G5

def raisB (n : Int) (l x m : List Int) : Bool := subB n l && belB n l x && isLongB n m
def rvTo (n : Int) (l x m : List Int) : Nat → List Int
  | 0 => x
  | k + 1 => if (rvTo n l x m k).getD k 0 < m.getD k 0 then (rvTo n l x m k).set k (min ((rvTo n l x m k).getD k 0 + capN n l (rvTo n l x m k) k) (m.getD k 0)) else rvTo n l x m k
def rvL (n : Int) (l x m : List Int) : List Int := if raisB n l x m then rvTo n l x m x.length else []
theorem rvTo_len (n : Int) (l x m : List Int) : ∀ k, (rvTo n l x m k).length = x.length := by
  intro k
  induction k with
  | zero => rfl
  | succ k ih => rw [rvTo]; split <;> simp [ih]
theorem rvTo_bd (n : Int) (l x m : List Int) (hm : m.length = x.length) (hx : ∀ k, (hk : k < x.length) → -5000 ≤ x[k] ∧ x[k] ≤ 5000) (hmb : ∀ k, (hk : k < m.length) → -5000 ≤ m[k] ∧ m[k] ≤ 5000) : ∀ k, k ≤ x.length → ∀ y ∈ rvTo n l x m k, -5000 ≤ y ∧ y ≤ 5000 := by
  intro k
  induction k with
  | zero =>
    intro _ y hy
    obtain ⟨i, hi, rfl⟩ := List.getElem_of_mem hy
    exact hx i hi
  | succ k ih =>
    intro hk y hy
    have ih := ih (by omega)
    rw [rvTo] at hy
    by_cases hc : (rvTo n l x m k).getD k 0 < m.getD k 0
    · rw [if_pos hc] at hy
      rcases List.mem_or_eq_of_mem_set hy with hy | hy
      · exact ih y hy
      · have hl := rvTo_len n l x m k
        have h1 : (rvTo n l x m k).getD k 0 = (rvTo n l x m k)[k]'(by omega) := getD_at _ k (by omega)
        have h2 : m.getD k 0 = m[k]'(by omega) := getD_at _ k (by omega)
        have h3 := ih _ (List.getElem_mem (show k < (rvTo n l x m k).length by omega))
        have h4 := hmb k (by omega)
        have h5 := capN_bd n l (rvTo n l x m k) k
        rw [h1, h2] at hy
        omega
    · rw [if_neg hc] at hy
      exact ih y hy
theorem rais_fun {n : Int} {l x m : List Int} (h : raisB n l x m = true) : ∃ N : Nat, n = N ∧ N ≤ 5 ∧ x.length = N ∧ m.length = x.length ∧ (∀ k, (hk : k < x.length) → -5000 ≤ x[k] ∧ x[k] ≤ 5000) ∧ (∀ k, (hk : k < m.length) → -5000 ≤ m[k] ∧ m[k] ≤ 5000) := by
  unfold raisB at h
  simp only [Bool.and_eq_true] at h
  obtain ⟨⟨_, h2⟩, h3⟩ := h
  obtain ⟨N, rfl, hN5, _, _, hxl, _, hxb, _⟩ := bel_fun h2
  obtain ⟨h4, h5⟩ := longOk h3
  exact ⟨N, rfl, hN5, hxl, by omega, hxb, h5⟩

set_option maxHeartbeats 2000000 in
set_option maxRecDepth 100000 in
theorem raiseI_any (w : World) (n : Int) (v : Value) (l : List Int) (hv : Ints w v l) (hl : l.length ≤ 1048576) (u : Value) (x : List Int) (hu : Ints w u x) (t : Value) (m : List Int) (ht : Ints w t m) :
    Calls Tryz.prog 128 #[.agg #[.int .i64 n, v], u, t] w fun e' w' => ∃ ad i c, e' = .returned (.tuple #[.slice ad i c, .bool (raisB n l x m)]) ∧ OwnI 3 w.heap.size w' (.slice ad i c) (rvL n l x m) ∧ Below w.heap.size w w' := by
  obtain ⟨a, c, rfl⟩ := hv.shape
  obtain ⟨b, cu, rfl⟩ := hu.shape
  obtain ⟨bt, bq, off2, ct, rfl, hlen2, hix2, hc2, hb2⟩ := ht.view Tryz.prog 22 3 Tryz.underlying22 intElem
  obtain ⟨V, hV⟩ : ∃ V, V = w.alloc (.cells #[.int .i64 n, .slice a l.length c] 32) := ⟨_, rfl⟩
  have B : Below w.heap.size w V := by rw [hV]; exact bl1 _ _
  have K : Blk V w.heap.size 32 #[.int .i64 n, .slice a l.length c] := by rw [hV]; exact Blk.new _ _ _
  go_enter Tryz.func128, Tryz.ntmps128
  go_wp2_with fail
  rw [← hV]
  clear hV
  refine (isSubI_any n l _ V (hv.below B (Nat.le_refl _)) hl).mono ?_
  rintro e' w1 ⟨rfl, b1⟩
  have K := K.keep b1
  have B := B.after b1 B.size
  have G := K.cell
  cases hs : subB n l with
  | false =>
    have hx : raisB n l x m = false := by unfold raisB; rw [hs]; rfl
    have hy : rvL n l x m = [] := by unfold rvL; rw [hx]; rfl
    have HX := Lib.hid (And.intro hx hy)
    clear hx hy hs
    go_wp2
    go_ret2
    exact ⟨none, 0, 0, by rw [HX.out.1]; rfl, by rw [HX.out.2]; exact OwnI.nil _ _ _, B⟩
  | true =>
  go_wp2_with fail
  clear G
  refine (isBelowI_any w1 n _ l (hv.below B (Nat.le_refl _)) _ x (hu.below B (Nat.le_refl _))).mono ?_
  rintro e' w2 ⟨rfl, b2⟩
  have K := K.keep b2
  have B := B.after b2 B.size
  have G := K.cell
  cases hb : belB n l x with
  | false =>
    have hx : raisB n l x m = false := by unfold raisB; rw [hb]; simp
    have hy : rvL n l x m = [] := by unfold rvL; rw [hx]; rfl
    have HX := Lib.hid (And.intro hx hy)
    clear hx hy hs hb
    go_wp2
    go_ret2
    exact ⟨none, 0, 0, by rw [HX.out.1]; rfl, by rw [HX.out.2]; exact OwnI.nil _ _ _, B⟩
  | true =>
  go_wp2_with fail
  clear G
  refine (isLong_any n l _ m _ w2 (hv.below B (Nat.le_refl _)) (ht.below B (Nat.le_refl _))).mono ?_
  rintro e' w3 ⟨rfl, b3⟩
  have K := K.keep b3
  have B := B.after b3 B.size
  have G := K.cell
  cases hlo : isLongB n m with
  | false =>
    have hx : raisB n l x m = false := by unfold raisB; rw [hlo]; simp
    have hy : rvL n l x m = [] := by unfold rvL; rw [hx]; rfl
    have HX := Lib.hid (And.intro hx hy)
    clear hx hy hs hb hlo
    go_wp2
    go_ret2
    exact ⟨none, 0, 0, by rw [HX.out.1]; rfl, by rw [HX.out.2]; exact OwnI.nil _ _ _, B⟩
  | true =>
  have hx : raisB n l x m = true := by unfold raisB; rw [hs, hb, hlo]; rfl
  have hy : rvL n l x m = rvTo n l x m x.length := by unfold rvL; rw [hx]; rfl
  obtain ⟨N, rfl, hN5, hxl, hml, hxb, hmb⟩ := rais_fun hx
  have HBD := Lib.hid (rvTo_bd N l x m hml hxb hmb)
  have HMB := Lib.hid hmb
  have HX := Lib.hid (And.intro hx hy)
  have HML := Lib.hid hml
  have HXL := Lib.hid hxl
  clear hx hy hs hb hlo hxb hmb hml hxl
  go_wp2_with fail
  clear G
  refine (clone_any _ x w3 (hu.below B (Nat.le_refl _)) (by have := HXL.out; omega)).mono ?_
  rintro e' w4 ⟨p, i, q, rfl, o, b4⟩
  have zk := K.lt
  have hgw : ∀ g, (Value.slice p i q).ownBlock = some g → w.heap.size < g := fun g h => by have := (o.lt g h).1; omega
  have K := K.keep b4
  have o := o.mono (B' := w.heap.size) B.size
  have B := B.after b4 B.size
  have hi : i = x.length := by
    obtain ⟨_, _, h⟩ := o.shape
    injection h
  subst hi
  go_wp2_with fail
  go_loopw [31] (fun i wr => ∃ k : Nat, k ≤ x.length ∧ i = .int .i64 k ∧ OwnI 3 w.heap.size wr (.slice p x.length q) (rvTo N l x m k) ∧ (∀ g, (Value.slice p x.length q).ownBlock = some g → w.heap.size < g) ∧ Blk wr w.heap.size 32 #[.int .i64 (N : Int), .slice a l.length c] ∧ Below w.heap.size w wr) (fun i _ => x.length - (intOf i).toNat)
  case atStart => exact ⟨0, Nat.zero_le _, rfl, o, hgw, K, B⟩
  case round =>
    clear hgw
    obtain ⟨k, hk, rfl, ow, hgw, Kr, Br⟩ := hrel
    clear o K B
    have HO := Lib.hid ow
    have HGW := Lib.hid hgw
    clear ow hgw
    by_cases hlt : k < x.length
    · have hlt2 : (k : Int) < (x.length : Int) := by omega
      have hlr := rvTo_len N l x m k
      rcases HO.out.cases with ⟨h1, h2⟩ | ⟨g, cap, h1, hg1, hg2⟩
      · rw [h2] at hlr; simp at hlr; omega
      · injection h1 with h1 h3 h4
        subst h1 h4
        have hgb := HGW.out g rfl
        clear h3
        have hkr : k < (rvTo N l x m k).length := by omega
        have co := HO.out.cellAt hlr.symm k hkr
        have ob := HBD.out k hk _ (List.getElem_mem hkr)
        have hog : (rvTo N l x m k).getD k 0 = (rvTo N l x m k)[k] := getD_at _ k hkr
        have hkm : k < m.length := by have := HML.out; omega
        have cm := cells_below hc2 hb2 Br (Nat.le_refl _) k hkm
        have im := fun W => hix2 W k hkm
        have mb := HMB.out k hkm
        have hmg : m.getD k 0 = m[k] := getD_at _ k hkm
        have hcb := capN_bd N l (rvTo N l x m k) k
        have hnx : rvTo N l x m (k + 1) = if (rvTo N l x m k).getD k 0 < m.getD k 0 then (rvTo N l x m k).set k (min ((rvTo N l x m k).getD k 0 + capN N l (rvTo N l x m k) k) (m.getD k 0)) else rvTo N l x m k := rfl
        rw [hog, hmg] at hnx
        have hcl := fun (W : World) (h1 : Ints W (.slice a l.length c) l) (h2 : Ints W (.slice (some ⟨g, 0, none⟩) x.length q) (rvTo N l x m k)) => capacityI_any W N _ l h1 _ _ h2 k (by have := HXL.out; omega)
        obtain ⟨C, hC⟩ : ∃ C, C = capN N l (rvTo N l x m k) k := ⟨_, rfl⟩
        obtain ⟨ov, hov⟩ : ∃ ov, ov = (rvTo N l x m k)[k] := ⟨_, rfl⟩
        obtain ⟨mv, hmv⟩ : ∃ mv, mv = m[k] := ⟨_, rfl⟩
        simp only [← hC] at hcl
        rw [← hC, ← hov, ← hmv] at hnx
        rw [← hC] at hcb
        rw [← hov] at co ob
        rw [← hmv] at cm mb
        have HCL := Lib.hid hcl
        have HNX := Lib.hid hnx
        have HLR := Lib.hid hlr
        have fo := HO.out.frozenAt hlr.symm k
        have G := Kr.cell
        clear hcl hnx hlr hC hov hmv hog hmg hkr hc2 hix2
        by_cases hlm : ov < mv
        · have HLM := Lib.hid hlm
          go_wp2
          go_quiet (fail)
          go_wp2_with fail
          refine (HCL.out _ (hv.below (Br.drewN' _) (Nat.le_refl _)) (HO.out.drewN _).ints).mono ?_
          rintro e' w5 ⟨rfl, b5⟩
          have K5 := (Kr.drewN nq).keep b5
          have o5 := (HO.out.drewN nq).keep b5
          have B5 := (Br.drewN' nq).after b5 (Br.drewN' nq).size
          have co5 := keep b5 (show (wr.drewN nq).cell? ⟨g, k, none⟩ = some (.int .i64 ov) from co)
          have cm5 := keep b5 (show (wr.drewN nq).cell? ⟨bq, off2 + k, none⟩ = some (.int .i64 mv) from cm)
          have fo5 := o5.frozenAt HLR.out.symm k
          have hwc : IntKind.i64.wrap (ov + C) = ov + C := IntWalk.i64_in _ ⟨by omega, by omega⟩
          have HO5 := Lib.hid o5
          clear co cm fo G o5
          go_wp2
          go_region
          all_goals go_wp2
          go_roundw
          case rel =>
            have S : ∀ z, OwnI 3 w.heap.size ((w5.drewN z).setCell ⟨g, k, none⟩ (.int .i64 (if mv < ov + C then mv else ov + C))) (.slice (some ⟨g, 0, none⟩) x.length q) (rvTo N l x m (k + 1)) ∧ Blk ((w5.drewN z).setCell ⟨g, k, none⟩ (.int .i64 (if mv < ov + C then mv else ov + C))) w.heap.size 32 #[.int .i64 (N : Int), .slice a l.length c] ∧ Below w.heap.size w ((w5.drewN z).setCell ⟨g, k, none⟩ (.int .i64 (if mv < ov + C then mv else ov + C))) := by
              intro z
              have hmin : (if mv < ov + C then mv else ov + C) = min (ov + C) mv := by split <;> omega
              rw [hmin]
              have s1 := (HO5.out.drewN z).stored HLR.out.symm k (min (ov + C) mv) ⟨by omega, by omega⟩
              rw [HNX.out, if_pos HLM.out]
              exact ⟨s1.1, (K5.drewN z).far (by show w.heap.size ≠ g; omega) _, (B5.drewN' z).grown s1.2 (B5.drewN' z).size (fun q hq => by have := Option.some.inj hq; omega)⟩
            exact ⟨k + 1, by omega, by go_num, (S _).1, HGW.out, (S _).2.1, (S _).2.2⟩
          case measure => simp [intOf]; omega
        · have HLM := Lib.hid hlm
          go_wp2
          go_quiet (fail)
          go_wp2
          go_roundw
          case rel => exact ⟨k + 1, by omega, by go_num, by rw [HNX.out, if_neg (by have := HLM.out; omega)]; exact HO.out.drewN _, HGW.out, Kr.drewN _, Br.drewN' _⟩
          case measure => simp [intOf]; omega
    · have hlt2 : ¬ (k : Int) < (x.length : Int) := by omega
      have hkl : k = x.length := by omega
      have HK := Lib.hid hkl
      clear hkl
      go_wp2
      go_ret2
      have ho := HO.out
      rw [HK.out] at ho
      exact ⟨p, x.length, q, by rw [HX.out.1]; rfl, by rw [HX.out.2]; exact ho, Br⟩
end Go.Proofs.YtipejodijbjpcaaGreatDoor
end
