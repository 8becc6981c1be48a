/- The checks of claims: dual vectors, level sets, best bases: the first program. Claims: the laws' own copies, sizes and equalities. The checks of claims: best bases, single values, common sets, minima, cuts, sunflowers: the first program. The checks of claims: minima, cuts, sunflowers: the first program. -/
import Derived.Test.YtipejodijbjpcaaGreatDoorQ34
section
namespace Go.Proofs.YtipejodijbjpcaaGreatDoor
open Go.RowKit Go.G5

theorem all_long {n : Int} {x : List Int} (h : isLongB n x = true) : allIn x (-5000) 0 = x.all fun y => decide (y ≤ 0) := by
  obtain ⟨_, h2⟩ := longOk h
  rw [Bool.eq_iff_iff]
  unfold allIn inB
  simp only [List.all_eq_true, Bool.and_eq_true, decide_eq_true_eq]
  constructor
  · intro h y hy; exact (h y hy).2
  · intro h y hy
    obtain ⟨k, hk, rfl⟩ := List.getElem_of_mem hy
    have := h2 k hk
    exact ⟨this.1, h _ hy⟩
theorem bel_parts {n : Int} {l x : List Int} (h : belB n l x = true) : isFunB n l = true ∧ isLongB n x = true := by
  unfold belB at h
  rw [Bool.and_eq_true, Bool.and_eq_true] at h
  refine ⟨?_, h.1.2⟩
  have := h.1.1
  unfold isGrB at this
  rw [Bool.and_eq_true] at this
  exact this.1
set_option maxHeartbeats 1000000 in
set_option maxRecDepth 100000 in
theorem dualVI_any (w : World) (n : Int) (v : Value) (l : List Int) (hv : Ints w v l) (u : Value) (x : List Int) (hu : Ints w u x) :
    Calls Tryz.prog 24 #[.agg #[.int .i64 n, v], u] w fun e w' => e = .returned (.bool (dualV n l x)) ∧ Below w.heap.size w w' := by
  obtain ⟨a, c, rfl⟩ := hv.shape
  obtain ⟨au, cu, rfl⟩ := hu.shape
  have K0 := Blk.new w 32 #[.int .i64 n, .slice a l.length c]
  cases hb : belB n l x with
  | false =>
    have hx : dualV n l x = false := by unfold dualV; rw [hb]; rfl
    have HX := Lib.hid hx
    have HB := Lib.hid hb
    clear hx hb
    go_enter Tryz.func24, Tryz.ntmps24
    go_wp2_with fail
    refine (isBelowI_any _ n _ l (hv.alloc _) _ x (hu.alloc _)).mono ?_
    rintro e w1 ⟨rfl, b1⟩
    rw [HB.out]
    go_wp2
    go_ret
    exact ⟨ret_bool HX.out.symm, (bl1 _ _).after b1 (by simp)⟩
  | true =>
    obtain ⟨hf, hlg⟩ := bel_parts hb
    obtain ⟨N, rfl, hN, hll, _, hbd⟩ := fun_nat hf
    obtain ⟨hxn, hxb⟩ := longOk hlg
    have hx : dualV (N : Int) l x = (x.all (fun y => decide (y ≤ 0)) && wt x (2 ^ N - 1) == lstN l) := by unfold dualV; rw [hb, Int.toNat_natCast]; rfl
    have haw := fun W (h : Ints W (.slice au x.length cu) x) => areWithin_any x _ (-5000) 0 W h
    simp only [all_long hlg] at haw
    have hmn : minN (N : Int) l = lstN l := by unfold minN; rw [hf]; rfl
    have hmi := fun (W : World) (h : Ints W (.slice a l.length c) l) => minimumI_any W (N : Int) _ l h
    simp only [hmn] at hmi
    have hal := fun (W : World) (h : Ints W (.slice a l.length c) l) => allOf_any (N : Int) _ l W h (by omega) (by omega)
    have hp := two_pow N 5 hN
    have hp1 := hp.1
    have hp2 := hp.2
    have hwt := fun W (h : Ints W (.slice au x.length cu) x) => weightOf_any x _ (2 ^ N - 1) W h (by omega) (by simp at hp1; omega) (fun k hk => by have := hxb k hk; omega) (by omega)
    obtain ⟨P, hP⟩ : ∃ P, P = x.all (fun y => decide (y ≤ 0)) := ⟨_, rfl⟩
    obtain ⟨Wt, hWt⟩ : ∃ P, P = wt x (2 ^ N - 1) := ⟨_, rfl⟩
    obtain ⟨M, hM⟩ : ∃ P, P = lstN l := ⟨_, rfl⟩
    rw [← hP, ← hWt, ← hM] at hx
    simp only [← hP] at haw
    simp only [← hWt] at hwt
    simp only [← hM] at hmi
    have HX := Lib.hid hx
    have HB := Lib.hid hb
    have HAW := Lib.hid haw
    have HMI := Lib.hid hmi
    have HAL := Lib.hid hal
    have HWT := Lib.hid hwt
    clear hx hb haw hmi hal hwt hP hWt hM hmn hf hlg hbd hxb hp hxn hll
    go_enter Tryz.func24, Tryz.ntmps24
    go_wp2_with fail
    refine (isBelowI_any _ _ _ l (hv.alloc _) _ x (hu.alloc _)).mono ?_
    rintro e w1 ⟨rfl, b1⟩
    rw [HB.out]
    have B1 : Below w.heap.size w w1 := (bl1 _ _).after b1 (by simp)
    have K1 := K0.keep b1
    clear K0 b1
    have hu1 := hu.below B1 (Nat.le_refl _)
    have hv1 := hv.below B1 (Nat.le_refl _)
    have G := K1.cell
    cases P with
    | false =>
      go_wp2_with (go_at_call 131; refine (HAW.out _ hu1).mono ?_; rintro e w' ⟨rfl, rfl⟩)
      go_ret
      exact ⟨ret_bool HX.out.symm, B1⟩
    | true =>
      go_wp2_with (go_at_call 131; refine (HAW.out _ hu1).mono ?_; rintro e w' ⟨rfl, rfl⟩)
      refine (HMI.out w1 hv1).mono ?_
      rintro e w2 ⟨rfl, b2⟩
      have B2 := B1.after b2 B1.size
      have K2 := K1.keep b2
      have hu2 := hu.below B2 (Nat.le_refl _)
      have hv2 := hv.below B2 (Nat.le_refl _)
      clear G hu1 hv1 K1 b2
      have G := K2.cell
      go_wp2_with fail
      refine (HAL.out w2 hv2).mono ?_
      rintro e w3 ⟨rfl, b3⟩
      have B3 := B2.after b3 B2.size
      have hu3 := hu.below B3 (Nat.le_refl _)
      rw [Int.toNat_natCast]
      go_wp2_with (go_at_call 132; refine (HWT.out _ hu3).mono ?_; rintro e w' ⟨rfl, rfl⟩)
      go_ret
      exact ⟨ret_bool HX.out.symm, B3⟩

set_option maxHeartbeats 2000000 in
set_option maxRecDepth 100000 in
theorem levelsOf_any (x : List Int) (v : Value) (w : World) (hv : Ints w v x) (h5 : x.length ≤ 5) (hx : ∀ y ∈ x, -1000 ≤ y ∧ y ≤ 1000) :
    Calls Tryz.prog 319 #[v] w fun e w' => ∃ ad i c, e = .returned (.slice ad i c) ∧ OwnI 3 w.heap.size w' (.slice ad i c) (lsL x) ∧ Below w.heap.size w w' := by
  obtain ⟨a, b, off, c, rfl, hlen, hix, hc, hb⟩ := hv.view Tryz.prog 22 3 Tryz.underlying22 intElem
  have hds := descending_any x _ w h5 hv hx
  have hom := ordN_mem x x.length
  have hol := ordN_len x x.length
  obtain ⟨T, hT⟩ : ∃ T, T = lsL x := ⟨_, rfl⟩
  have hTe : T = lsToC x (ordN x x.length) x.length := hT
  rw [← hT]
  obtain ⟨o, ho⟩ : ∃ o, o = ordN x x.length := ⟨_, rfl⟩
  rw [← ho] at hds hom hol hTe
  have HX := Lib.hid hx
  have HC := Lib.hid hc
  have HIX := Lib.hid hix
  have HDS := Lib.hid hds
  have HOM := Lib.hid hom
  have HOL := Lib.hid hol
  have HT := Lib.hid hTe
  have hlb := fun i (hi : i ≤ o.length) => lvS_bd o (fun e he => by have := hom e he; omega) i hi
  have HLB := Lib.hid hlb
  clear hc hix hds hom hol hTe hT hlb hx ho
  go_enter Tryz.func319, Tryz.ntmps319
  go_wp2_with fail
  refine HDS.out.mono ?_
  rintro e w2 ⟨po, io, qo, rfl, oo, b2⟩
  have hio : io = x.length := by rw [← HOL.out]; exact oo.ints.capLe.1
  subst hio
  have hoi := oo.ints
  rw [show (Value.slice po x.length qo) = .slice po o.length qo by rw [HOL.out]] at hoi
  obtain ⟨_, ob, ooff, _, hve, _, hoix, hoc, hob⟩ := hoi.view Tryz.prog 22 3 Tryz.underlying22 intElem
  injection hve with x1 _ x3
  subst x1 x3
  have HOC := Lib.hid hoc
  have HOIX := Lib.hid (show ∀ (w' : World) (k : Nat), k < x.length → (Instr.indexAt 22 (.slice po x.length qo) (.int .i64 (k : Int))).run Tryz.prog w' = .ok (.pointer (some ⟨ob, ooff + k, none⟩)) w' by intro w' k hk; have := hoix w' k (by rw [HOL.out]; exact hk); rw [HOL.out] at this; exact this)
  have hob2 : x ≠ [] → ob < w2.heap.size := fun h => hob (fun e => h (by have := HOL.out; rw [e] at this; exact List.eq_nil_of_length_eq_zero this.symm))
  have HOB := Lib.hid hob2
  clear hoc hoix hob hoi oo hob2
  go_wp2_with fail
  go_loopw [3, 4, 12] (fun ov sv iv wr => ∃ (i : Nat) (p : Option Addr) (q m : Nat), i ≤ x.length ∧ iv = .int .i64 i ∧ sv = .int .i64 (lvS o i) ∧ ov = .slice p q m ∧ OwnI 3 w2.heap.size wr (.slice p q m) (lsToC x o i) ∧ Below w2.heap.size w2 wr) (fun _ _ iv _ => x.length - (intOf iv).toNat)
  case atStart => exact ⟨0, _, _, _, Nat.zero_le _, rfl, rfl, rfl, OwnI.nil _ _ _, Below.refl _ _⟩
  case round =>
    obtain ⟨i, p, q, m, hi, rfl, rfl, rfl, own, Bw⟩ := hrel
    obtain ⟨wo, rfl⟩ : ∃ z : World, z = wr := ⟨_, rfl⟩
    have HOWN := Lib.hid own
    have B2w := b2.after Bw b2.size
    clear own
    by_cases hlt : i < x.length
    · have hlt2 : (i : Int) < (x.length : Int) := by omega
      have hio : i < o.length := by rw [HOL.out]; exact hlt
      have oc := HOC.out i hio
      have ocw : wo.cell? ⟨ob, ooff + i, none⟩ = some (.int .i64 o[i]) := by
        have hz := HOB.out (fun e => by rw [e] at hlt; simp at hlt)
        rw [Bw.cell (p := ⟨ob, ooff + i, none⟩) hz]; exact oc
      have oix := fun W => HOIX.out W i hlt
      have hm := HOM.out _ (List.getElem_mem hio)
      have hl1 := HLB.out i (by omega)
      have hl2 := HLB.out (i + 1) (by omega)
      have hnx : lvS o (i + 1) = ior (lvS o i) (2 ^ o[i].toNat) := by rw [lvS, List.getD_eq_getElem?_getD, List.getElem?_eq_getElem hio, Option.getD_some]
      have hat : atO x o i = x.getD o[i].toNat 0 := by unfold atO; rw [getD_at o i hio]
      have hls : lsToC x o (i + 1) = lsToC x o i ++ (if cutL x o i then [lvS o (i + 1)] else []) := rfl
      obtain ⟨e, he⟩ : ∃ e : Nat, o[i] = (e : Int) := ⟨o[i].toNat, by omega⟩
      rw [he] at ocw hm hnx hat
      rw [Int.toNat_natCast] at hnx hat
      have he5 : e < x.length := by omega
      rw [getD_at x e he5] at hat
      have xe := HC.out e he5
      have xew := cells_below HC.out hb B2w (Nat.le_refl _) e he5
      have xie := fun W => HIX.out W e he5
      have hxe := HX.out _ (List.getElem_mem he5)
      obtain ⟨X1, hX1⟩ : ∃ X1, X1 = x[e] := ⟨_, rfl⟩
      rw [← hX1] at xew hat hxe
      have hp := two_pow e 5 (by omega)
      have hp1 := hp.1
      have hp2 := hp.2
      simp at hp1
      obtain ⟨s1, hs1⟩ : ∃ s, s = lvS o i := ⟨_, rfl⟩
      obtain ⟨s2, hs2⟩ : ∃ s, s = lvS o (i + 1) := ⟨_, rfl⟩
      rw [← hs1] at hl1 hnx ⊢
      rw [← hs2] at hl2 hnx hls
      have hor : bits .or .i64 s1 (2 ^ e) = s2 := by rw [hnx]; exact ior_is hl1.1 (by omega) (by omega) (by omega)
      have HS2 := Lib.hid hs2
      have HLS := Lib.hid hls
      have hll := lsTo_len x o i
      have hwi : IntKind.i64.wrap ((i : Int) + 1) = (i : Int) + 1 := by rw [IntKind.wrap_i64]; omega
      have zo := Bw.size
      have hcut : cutL x o i = (i + 1 == o.length || atO x o (i + 1) != atO x o i) := rfl
      rw [hat] at hcut
      clear oc xe hX1 hs1 hs2 hnx hls hat he hm hp
      by_cases hend : i + 1 = x.length
      · have hce : cutL x o i = true := by rw [hcut, HOL.out]; simp [hend]
        have ht : ((i : Int) + 1 == (x.length : Int)) = true := by simp; omega
        have hls2 : lsToC x o (i + 1) = lsToC x o i ++ [s2] := by rw [HLS.out, hce]; rfl
        have HL2 := Lib.hid hls2
        clear hce hls2 hcut hend
        go_wp2_with fail
        go_quiet (fail)
        go_wp2_with (at_builtin; refine wpList_appendI rfl _ _ _ rfl 3 Tryz.underlying22 intElem w2.heap.size _ (lsToC x o i) s2 _ rfl rfl (cell_new _ _ _ _ _ rfl) ((HOWN.out.drewN _).alloc _) ⟨by omega, by omega⟩ (by omega) (by simp; omega) ?_; intro v' w6 hown hgr; obtain ⟨av, nv, cv, rfl⟩ := hown.shape3)
        have B6 : Below w2.heap.size w2 w6 := ((Bw.drewN' _).alloc (Bw.drewN' _).size (.cells #[.int .i64 s2] 3)).grown hgr (by have := Bw.size; simp; omega) (fun q hq => (HOWN.out.lt q hq).1)
        go_roundw
        case rel => exact ⟨i + 1, av, nv, cv, by omega, by go_num, by rw [HS2.out], rfl, by rw [HL2.out]; exact hown, B6⟩
        case measure => simp [intOf]; omega
      · have hlt' : i + 1 < x.length := by omega
        have ht : ((i : Int) + 1 == (x.length : Int)) = false := by simp; omega
        have hio' : i + 1 < o.length := by rw [HOL.out]; exact hlt'
        have oc' := HOC.out (i + 1) hio'
        have ocw' : wo.cell? ⟨ob, ooff + (i + 1), none⟩ = some (.int .i64 o[i + 1]) := by
          have hz := HOB.out (fun e => by rw [e] at hlt; simp at hlt)
          rw [Bw.cell (p := ⟨ob, ooff + (i + 1), none⟩) hz]; exact oc'
        have oix' : ∀ W, (Instr.indexAt 22 (.slice po x.length qo) (.int .i64 ((i : Int) + 1))).run Tryz.prog W = .ok (.pointer (some ⟨ob, ooff + (i + 1), none⟩)) W := fun W => by have := HOIX.out W (i + 1) hlt'; simpa using this
        have hm' := HOM.out _ (List.getElem_mem hio')
        have hat' : atO x o (i + 1) = x.getD o[i + 1].toNat 0 := by unfold atO; rw [getD_at o (i + 1) hio']
        obtain ⟨e', he'⟩ : ∃ e' : Nat, o[i + 1] = (e' : Int) := ⟨o[i + 1].toNat, by omega⟩
        rw [he'] at ocw' hm' hat'
        rw [Int.toNat_natCast] at hat'
        have he5' : e' < x.length := by omega
        rw [getD_at x e' he5'] at hat'
        have xew' := cells_below HC.out hb B2w (Nat.le_refl _) e' he5'
        have xie' := fun W => HIX.out W e' he5'
        obtain ⟨X2, hX2⟩ : ∃ X2, X2 = x[e'] := ⟨_, rfl⟩
        rw [← hX2] at xew' hat'
        rw [hat'] at hcut
        have hne : (i + 1 == o.length) = false := by rw [HOL.out]; simp; omega
        rw [hne, Bool.false_or] at hcut
        clear oc' hX2 hat' he' hm' hne
        cases hc2 : X2 != X1 with
        | false =>
          have hls2 : lsToC x o (i + 1) = lsToC x o i := by rw [HLS.out, hcut, hc2]; simp
          have HL2 := Lib.hid hls2
          clear hls2 hcut hend
          go_wp2_with fail
          go_quiet (fail)
          go_wp2
          go_roundw
          case rel => exact ⟨i + 1, p, q, m, by omega, by go_num, by rw [HS2.out], rfl, by rw [HL2.out]; exact HOWN.out.drewN _, Bw.drewN' _⟩
          case measure => simp [intOf]; omega
        | true =>
          have hls2 : lsToC x o (i + 1) = lsToC x o i ++ [s2] := by rw [HLS.out, hcut, hc2]; rfl
          have HL2 := Lib.hid hls2
          clear hls2 hcut hend
          go_wp2_with fail
          go_quiet (fail)
          go_wp2_with (at_builtin; refine wpList_appendI rfl _ _ _ rfl 3 Tryz.underlying22 intElem w2.heap.size _ (lsToC x o i) s2 _ rfl rfl (cell_new _ _ _ _ _ rfl) ((HOWN.out.drewN _).alloc _) ⟨by omega, by omega⟩ (by omega) (by simp; omega) ?_; intro v' w6 hown hgr; obtain ⟨av, nv, cv, rfl⟩ := hown.shape3)
          have B6 : Below w2.heap.size w2 w6 := ((Bw.drewN' _).alloc (Bw.drewN' _).size (.cells #[.int .i64 s2] 3)).grown hgr (by have := Bw.size; simp; omega) (fun q hq => (HOWN.out.lt q hq).1)
          go_roundw
          case rel => exact ⟨i + 1, av, nv, cv, by omega, by go_num, by rw [HS2.out], rfl, by rw [HL2.out]; exact hown, B6⟩
          case measure => simp [intOf]; omega
    · have hlt2 : ¬ (i : Int) < (x.length : Int) := by omega
      have hie : i = x.length := by omega
      subst hie
      go_wp2
      go_ret
      exact ⟨_, _, _, rfl, by rw [HT.out]; exact HOWN.out.mono b2.size, b2.after Bw b2.size⟩
end Go.Proofs.YtipejodijbjpcaaGreatDoor
end
section
namespace Go.Proofs.YtipejodijbjpcaaGreatDoor
open Go.RowKit Go.G5

/-- a claim's value -/
@[reducible] def clV (k n1 : Int) (v1 : Value) (n2 : Int) (v2 : Value) (n3 : Int) (v3 : Value) (q st : Int) (v4 : Value) : Value :=
  .agg #[.int .i64 k, .int .i64 n1, v1, .int .i64 n2, v2, .int .i64 n3, v3, .int .i64 q, .int .i64 st, v4]
@[reducible] def clC (k n1 : Int) (v1 : Value) (n2 : Int) (v2 : Value) (n3 : Int) (v3 : Value) (q st : Int) (v4 : Value) : Array Value :=
  #[.int .i64 k, .int .i64 n1, v1, .int .i64 n2, v2, .int .i64 n3, v3, .int .i64 q, .int .i64 st, v4]

end Go.Proofs.YtipejodijbjpcaaGreatDoor
end
section
namespace Go.Proofs.YtipejodijbjpcaaGreatDoor
open Go.RowKit Go.G5

theorem all_false_k {α : Type} (p : α → Bool) (l : List α) (k : Nat) (h : k < l.length) (hp : p l[k] = false) : l.all p = false := by
  rw [List.all_eq_false]
  exact ⟨l[k], List.getElem_mem h, by rw [hp]; simp⟩
theorem base_bel {n : Int} {l x : List Int} (h : baseB n l x = true) : belB n l x = true := by
  unfold baseB at h
  rw [Bool.and_eq_true] at h
  exact h.1
set_option maxHeartbeats 1000000 in
set_option maxRecDepth 100000 in
theorem bestI_any (w : World) (n : Int) (v : Value) (l : List Int) (hv : Ints w v l) (hl : l.length ≤ 1048576) (u : Value) (x : List Int) (hu : Ints w u x) (vy : Value) (y : List Int) (hy : Ints w vy y) :
    Calls Tryz.prog 251 #[.agg #[.int .i64 n, v], u, vy] w fun e w' => e = .returned (.bool (bestB n l x y)) ∧ Below w.heap.size w w' := by
  obtain ⟨a, c, rfl⟩ := hv.shape
  obtain ⟨au, cu, rfl⟩ := hu.shape
  obtain ⟨ay, cy, rfl⟩ := hy.shape
  have K0 := Blk.new w 32 #[.int .i64 n, .slice a l.length c]
  cases ho : optB n l x with
  | false =>
    have hx : bestB n l x y = false := by unfold bestB; rw [ho]; rfl
    have HX := Lib.hid hx
    have HO := Lib.hid ho
    clear hx ho
    go_enter Tryz.func251, Tryz.ntmps251
    go_wp2_with fail
    refine (canOptI_any _ n _ l (hv.alloc _) hl _ x (hu.alloc _)).mono ?_
    rintro e w1 ⟨rfl, b1⟩
    rw [HO.out]
    go_wp2
    go_ret
    exact ⟨ret_bool HX.out.symm, (bl1 _ _).after b1 (by simp)⟩
  | true =>
    cases hb : baseB n l y with
    | false =>
      have hx : bestB n l x y = false := by unfold bestB; rw [hb, Bool.and_false]; rfl
      have HX := Lib.hid hx
      have HO := Lib.hid ho
      have HB := Lib.hid hb
      clear hx ho hb
      go_enter Tryz.func251, Tryz.ntmps251
      go_wp2_with fail
      refine (canOptI_any _ n _ l (hv.alloc _) hl _ x (hu.alloc _)).mono ?_
      rintro e w1 ⟨rfl, b1⟩
      rw [HO.out]
      have B1 : Below w.heap.size w w1 := (bl1 _ _).after b1 (by simp)
      have G := (K0.keep b1).cell
      go_wp2_with fail
      refine (isBaseI_any _ n _ l (hv.below B1 (Nat.le_refl _)) _ y (hy.below B1 (Nat.le_refl _))).mono ?_
      rintro e w2 ⟨rfl, b2⟩
      rw [HB.out]
      go_wp2
      go_ret
      exact ⟨ret_bool HX.out.symm, B1.after b2 B1.size⟩
    | true =>
      obtain ⟨h5, hn, hl2, hl32, hlb, hxb⟩ := opt_fun ho
      obtain ⟨_, hlg⟩ := bel_parts (base_bel hb)
      obtain ⟨hyn, hyb⟩ := longOk hlg
      have hsm := lsL_mem x x.length rfl
      have hx : bestB n l x y = (lsL x).all (fun s => slackOf l y s == 0) := by unfold bestB tightAll; rw [ho, hb]; rfl
      have hlv := fun W (h : Ints W (.slice au x.length cu) x) => levelsOf_any x _ W h h5 hxb
      have hs32 : ∀ s ∈ lsL x, 0 ≤ s ∧ s < (l.length : Int) := fun s h3 => by
        have h4 := hsm s h3
        have e : ((2 : Int) ^ x.length) = ((2 ^ x.length : Nat) : Int) := by simp
        omega
      have hsl := fun (W : World) (s : Int) (h1 : Ints W (.slice a l.length c) l) (h2 : Ints W (.slice ay y.length cy) y) (h3 : s ∈ lsL x) => slack_any n l _ y _ s W h1 h2 (hs32 s h3).1 (hs32 s h3).2 (by omega) hlb hyb (by omega)
      obtain ⟨T, hT⟩ : ∃ T, T = lsL x := ⟨_, rfl⟩
      rw [← hT] at hx
      simp only [← hT] at hlv hsl
      have HX := Lib.hid hx
      have HO := Lib.hid ho
      have HB := Lib.hid hb
      have HLV := Lib.hid hlv
      have HSL := Lib.hid hsl
      clear hx ho hb hlv hsl hT hsm hlb hxb hyb hyn hl2 hn hlg hs32
      go_enter Tryz.func251, Tryz.ntmps251
      go_wp2_with fail
      refine (canOptI_any _ n _ l (hv.alloc _) hl _ x (hu.alloc _)).mono ?_
      rintro e w1 ⟨rfl, b1⟩
      rw [HO.out]
      have B1 : Below w.heap.size w w1 := (bl1 _ _).after b1 (by simp)
      have K1 := K0.keep b1
      clear K0 b1
      have G := K1.cell
      go_wp2_with fail
      refine (isBaseI_any _ n _ l (hv.below B1 (Nat.le_refl _)) _ y (hy.below B1 (Nat.le_refl _))).mono ?_
      rintro e w2 ⟨rfl, b2⟩
      rw [HB.out]
      have B2 := B1.after b2 B1.size
      have K2 := K1.keep b2
      clear G K1 B1 b2
      go_wp2_with fail
      refine (HLV.out w2 (hu.below B2 (Nat.le_refl _))).mono ?_
      rintro e w3 ⟨pt, it, qt, rfl, ot, b3⟩
      have hit : it = T.length := ot.ints.capLe.1
      subst hit
      have B3 := B2.after b3 B2.size
      have K3 := K2.keep b3
      obtain ⟨_, tb, toff, _, hve, _, htix, htc, htb⟩ := ot.ints.view Tryz.prog 22 3 Tryz.underlying22 intElem
      injection hve with x1 _ x3
      subst x1 x3
      have HTC := Lib.hid htc
      have HTIX := Lib.hid htix
      clear K2 B2 b3 htc htix ot
      go_wp2_with fail
      go_loopw [22] (fun iv wr => ∃ j : Nat, j ≤ T.length ∧ iv = .int .i64 j ∧ (T.take j).all (fun s => slackOf l y s == 0) = true ∧ Below w3.heap.size w3 wr) (fun iv _ => T.length - (intOf iv).toNat)
      case atStart => exact ⟨0, Nat.zero_le _, rfl, rfl, Below.refl _ _⟩
      case round =>
        obtain ⟨j, hj, rfl, hall, Bw⟩ := hrel
        have HALL := Lib.hid hall
        clear hall
        have B4 := B3.after Bw B3.size
        have K4 := K3.keep Bw
        by_cases hlt : j < T.length
        · have hlt2 : (j : Int) < (T.length : Int) := by omega
          have ck := cells_below HTC.out htb Bw (Nat.le_refl _) j hlt
          have ik := fun W => HTIX.out W j hlt
          have hss := HSL.out wr T[j] (hv.below B4 (Nat.le_refl _)) (hy.below B4 (Nat.le_refl _)) (List.getElem_mem hlt)
          have htk := all_take_succ (fun s => slackOf l y s == 0) T j hlt
          have hfa := all_false_k (fun s => slackOf l y s == 0) T j hlt
          obtain ⟨s, hs⟩ : ∃ s, s = T[j] := ⟨_, rfl⟩
          rw [← hs] at ck hss htk hfa
          obtain ⟨sl, hsl⟩ : ∃ z, z = slackOf l y s := ⟨_, rfl⟩
          rw [← hsl] at hss htk hfa
          have HSS := Lib.hid hss
          have HTK := Lib.hid htk
          have HFA := Lib.hid hfa
          clear hs hsl hss htk hfa
          have G := K4.cell
          cases hz : sl == 0 with
          | false =>
            have hne : (sl != 0) = true := by rw [bne, hz]; rfl
            have hx := HX.out.trans (HFA.out hz)
            have HX2 := Lib.hid hx
            clear hx hz
            go_wp2_with fail
            refine HSS.out.mono ?_
            rintro e w5 ⟨rfl, b5⟩
            go_wp2
            go_ret
            exact ⟨ret_bool HX2.out.symm, B4.after b5 B4.size⟩
          | true =>
            have hne : (sl != 0) = false := by rw [bne, hz]; rfl
            have ha2 : (T.take (j + 1)).all (fun s => slackOf l y s == 0) = true := by rw [HTK.out, HALL.out, hz]; rfl
            have HA2 := Lib.hid ha2
            clear ha2 hz
            go_wp2_with fail
            refine HSS.out.mono ?_
            rintro e w5 ⟨rfl, b5⟩
            go_wp2
            go_roundw
            case rel => exact ⟨j + 1, by omega, by go_num, HA2.out, Bw.after b5 Bw.size⟩
            case measure => simp [intOf]; omega
        · have hlt2 : ¬ (j : Int) < (T.length : Int) := by omega
          have hx : bestB n l x y = true := by rw [HX.out, ← all_of_take _ T j (by omega), HALL.out]
          have HX2 := Lib.hid hx
          clear hx
          go_wp2
          go_ret
          exact ⟨ret_bool HX2.out.symm, B4⟩

theorem sglL_succ (l : List Int) (k : Nat) : sglL ((k + 1 : Nat) : Int) l = sglL (k : Int) l ++ [l.getD (2 ^ k) 0] := by
  unfold sglL
  rw [Int.toNat_natCast, Int.toNat_natCast, List.range_succ, List.map_append]; rfl
theorem sglL_len (N : Nat) (l : List Int) : (sglL (N : Int) l).length = N := by unfold sglL; simp
set_option maxHeartbeats 1000000 in
set_option maxRecDepth 100000 in
theorem singleI_any (w : World) (N : Nat) (v : Value) (l : List Int) (hv : Ints w v l) (hf : isFunB (N : Int) l = true) :
    Calls Tryz.prog 250 #[.agg #[.int .i64 (N : Int), v]] w fun e w' => ∃ ad i cp, e = .returned (.slice ad i cp) ∧ OwnI 3 w.heap.size w' (.slice ad i cp) (sglL (N : Int) l) ∧ Below w.heap.size w w' := by
  obtain ⟨a, b, off, c, rfl, hlen, hix, hc, hb⟩ := hv.view Tryz.prog 22 3 Tryz.underlying22 intElem
  obtain ⟨N', hN', hN5, hl2, hl32, hlb⟩ := fun_nat hf
  have hN' : N' = N := by omega
  subst hN'
  have K0 := Blk.new w 32 #[.int .i64 (N' : Int), .slice a l.length c]
  have B0 := bl1 w (.cells #[.int .i64 (N' : Int), .slice a l.length c] 32)
  have HL := Lib.hid hl2
  have HC := Lib.hid hc
  have HIX := Lib.hid hix
  have HLB := Lib.hid hlb
  clear hl2 hc hix hf hlb
  go_enter Tryz.func250, Tryz.ntmps250
  go_wp2_with fail
  go_loopw [3, 7] (fun ov iv wr => ∃ (k : Nat) (p : Option Addr) (q m : Nat), k ≤ N' ∧ iv = .int .i64 k ∧ ov = .slice p q m ∧ OwnI 3 (w.heap.size + 1) wr (.slice p q m) (sglL (k : Int) l) ∧ Blk wr w.heap.size 32 #[.int .i64 (N' : Int), .slice a l.length c] ∧ Below w.heap.size w wr) (fun _ iv _ => N' - (intOf iv).toNat)
  case atStart => exact ⟨0, _, _, _, Nat.zero_le _, rfl, rfl, OwnI.nil _ _ _, K0, B0⟩
  case round =>
    obtain ⟨k, p, q, m, hk, rfl, rfl, own, K, B⟩ := hrel
    obtain ⟨wo, rfl⟩ : ∃ z : World, z = wr := ⟨_, rfl⟩
    have HOWN := Lib.hid own
    clear own K0 B0
    by_cases hlt : k < N'
    · have hlt2 : (k : Int) < (N' : Int) := by omega
      have hpl : 2 ^ k < l.length := by rw [HL.out]; exact Nat.pow_lt_pow_right (by decide) hlt
      have ck := cells_below HC.out hb B (Nat.le_refl _) (2 ^ k) hpl
      have ik : ∀ W, (Instr.indexAt 22 (.slice a l.length c) (.int .i64 ((2 : Int) ^ k))).run Tryz.prog W = .ok (.pointer (some ⟨b, off + 2 ^ k, none⟩)) W := fun W => by have := HIX.out W (2 ^ k) hpl; simpa using this
      have hbk := HLB.out (2 ^ k) hpl
      have hs := sglL_succ l k
      rw [getD_at l (2 ^ k) hpl] at hs
      have hsl := sglL_len k l
      obtain ⟨y, hy⟩ : ∃ y, y = l[2 ^ k] := ⟨_, rfl⟩
      rw [← hy] at ck hbk hs
      have hp := two_pow k 5 (by omega)
      have hp1 := hp.1
      have hp2 := hp.2
      simp at hp1
      have hwp : IntKind.i64.wrap ((2 : Int) ^ k) = 2 ^ k := by rw [IntKind.wrap_i64]; omega
      have HS := Lib.hid hs
      have hll : (sglL (k : Int) l).length < 100 := by omega
      have G := K.cell
      have zo := B.size
      have zk := K.lt
      clear hy hs hp hsl hpl
      go_wp2_with (at_builtin; refine wpList_appendI rfl _ _ _ rfl 3 Tryz.underlying22 intElem (w.heap.size + 1) _ (sglL (k : Int) l) y wo.heap.size rfl rfl (cell_new _ _ _ _ _ rfl) (HOWN.out.alloc _) ⟨by omega, by omega⟩ (by omega) (by simp; omega) ?_; intro v' w6 hown hgr; obtain ⟨av, nv, cv, rfl⟩ := hown.shape3)
      have hrow := HOWN.out.lt
      have B6 : Below w.heap.size w w6 := (B.alloc B.size (.cells #[.int .i64 y] 3)).grown hgr (by have := B.size; simp; omega) (fun q hq => by have := (hrow q hq).1; omega)
      have K6 : Blk w6 w.heap.size 32 #[.int .i64 (N' : Int), .slice a l.length c] := (K.alloc _).grow hgr (fun e => by have := (hrow _ e).1; omega)
      go_roundw
      case rel => exact ⟨k + 1, av, nv, cv, by omega, by go_num, rfl, by rw [HS.out]; exact hown, K6, B6⟩
      case measure => simp [intOf]; omega
    · have hlt2 : ¬ (k : Int) < (N' : Int) := by omega
      have hke : k = N' := by omega
      subst hke
      have G := K.cell
      go_wp2
      go_ret
      exact ⟨_, _, _, rfl, HOWN.out.mono (by omega), B⟩
end Go.Proofs.YtipejodijbjpcaaGreatDoor
end
section
namespace Go.Proofs.YtipejodijbjpcaaGreatDoor
open Go.RowKit Go.G5

theorem dual_bel {n : Int} {l x : List Int} (h : dualV n l x = true) : belB n l x = true := by
  unfold dualV at h
  rw [Bool.and_eq_true] at h
  exact h.1
theorem set_nat {N : Nat} {st : Int} (h : isSet N st = true) : ∃ s : Nat, st = (s : Int) ∧ s < 2 ^ N := by
  have h := isSet_true.1 h
  obtain ⟨s, rfl⟩ := Int.eq_ofNat_of_zero_le h.1
  have e : ((2 : Int) ^ N) = ((2 ^ N : Nat) : Int) := by simp
  exact ⟨s, rfl, by omega⟩
set_option maxHeartbeats 1000000 in
set_option maxRecDepth 100000 in
theorem chkMinI_any (w : World) (k n1 : Int) (v1 : Value) (l1 : List Int) (h1 : Ints w v1 l1) (n2 : Int) (v2 : Value) (l2 : List Int) (h2 : Ints w v2 l2) (n3 : Int) (v3 : Value) (l3 : List Int) (h3 : Ints w v3 l3) (q st : Int) (v4 : Value) (l4 : List Int) (h4 : Ints w v4 l4) :
    Calls Tryz.prog 136 #[clV k n1 v1 n2 v2 n3 v3 q st v4] w fun e w' => e = .returned (.bool (chkMin n1 l1 q st l4)) ∧ Below w.heap.size w w' := by
  obtain ⟨a1, c1, rfl⟩ := h1.shape
  obtain ⟨a2, c2, rfl⟩ := h2.shape
  obtain ⟨a3, c3, rfl⟩ := h3.shape
  obtain ⟨a4, c4, rfl⟩ := h4.shape
  have K0 := Blk.new w 49 (clC k n1 (.slice a1 l1.length c1) n2 (.slice a2 l2.length c2) n3 (.slice a3 l3.length c3) q st (.slice a4 l4.length c4))
  cases hd : dualV n1 l1 l4 with
  | false =>
    have hx : chkMin n1 l1 q st l4 = false := by unfold chkMin; rw [hd]; rfl
    have HX := Lib.hid hx
    have HD := Lib.hid hd
    clear hx hd
    go_enter Tryz.func136, Tryz.ntmps136
    go_wp2_with fail
    refine (dualVI_any _ n1 _ l1 (h1.alloc _) _ l4 (h4.alloc _)).mono ?_
    rintro e w1 ⟨rfl, b1⟩
    rw [HD.out]
    go_wp2
    go_ret
    exact ⟨ret_bool HX.out.symm, (bl1 _ _).after b1 (by simp)⟩
  | true =>
    obtain ⟨hf, hlg⟩ := bel_parts (dual_bel hd)
    obtain ⟨N, rfl, hN, hll, _, hbd⟩ := fun_nat hf
    obtain ⟨hxn, hxb⟩ := longOk hlg
    have hso := fun W => isSetOf_any N st W (by omega)
    cases hs : isSet N st with
    | false =>
      have hx : chkMin (N : Int) l1 q st l4 = false := by unfold chkMin; rw [hd, Int.toNat_natCast, hs]; rfl
      rw [hs] at hso
      have HX := Lib.hid hx
      have HD := Lib.hid hd
      have HSO := Lib.hid hso
      clear hx hd hs hso hll hxn hbd hxb hf hlg
      go_enter Tryz.func136, Tryz.ntmps136
      go_wp2_with fail
      refine (dualVI_any _ _ _ l1 (h1.alloc _) _ l4 (h4.alloc _)).mono ?_
      rintro e w1 ⟨rfl, b1⟩
      rw [HD.out]
      have B1 : Below w.heap.size w w1 := (bl1 _ _).after b1 (by simp)
      have G := (K0.keep b1).cell
      go_wp2_with (go_at_call 229; refine (HSO.out _).mono ?_; rintro e w' ⟨rfl, rfl⟩)
      go_ret
      exact ⟨ret_bool HX.out.symm, B1⟩
    | true =>
      obtain ⟨s, rfl, hs2⟩ := set_nat hs
      have hx : chkMin (N : Int) l1 q (s : Int) l4 = (l1.getD s 0 == q && wt l4 (2 ^ N - 1) == q) := by unfold chkMin; rw [hd, Int.toNat_natCast, Int.toNat_natCast, hs]; rfl
      rw [hs] at hso
      have hsl : s < l1.length := by omega
      rw [getD_at l1 s hsl] at hx
      obtain ⟨_, b, off, _, hve, _, hix, hc, hb⟩ := h1.view Tryz.prog 22 3 Tryz.underlying22 intElem
      injection hve with x1 _ x3
      subst x1 x3
      have hcs := hc s hsl
      have hixs := fun W => hix W s hsl
      have hp := two_pow N 5 hN
      have hp1 := hp.1
      have hp2 := hp.2
      have hal := fun (W : World) (h : Ints W (.slice a1 l1.length c1) l1) => allOf_any (N : Int) _ l1 W h (by omega) (by omega)
      simp only [Int.toNat_natCast] at hal
      have hwt := fun W (h : Ints W (.slice a4 l4.length c4) l4) => weightOf_any l4 _ (2 ^ N - 1) W h (by omega) (by simp at hp1; omega) (fun k hk => by have := hxb k hk; omega) (by omega)
      obtain ⟨Wt, hWt⟩ : ∃ P, P = wt l4 (2 ^ N - 1) := ⟨_, rfl⟩
      rw [← hWt] at hx
      simp only [← hWt] at hwt
      obtain ⟨y, hy⟩ : ∃ y, y = l1[s] := ⟨_, rfl⟩
      rw [← hy] at hcs hx
      have HX := Lib.hid hx
      have HD := Lib.hid hd
      have HSO := Lib.hid hso
      have HAL := Lib.hid hal
      have HWT := Lib.hid hwt
      clear hx hd hs hso hll hxn hbd hxb hf hlg hal hwt hWt hy hc hix hp hp1 hp2 hs2
      go_enter Tryz.func136, Tryz.ntmps136
      go_wp2_with fail
      refine (dualVI_any _ _ _ l1 (h1.alloc _) _ l4 (h4.alloc _)).mono ?_
      rintro e w1 ⟨rfl, b1⟩
      rw [HD.out]
      have B1 : Below w.heap.size w w1 := (bl1 _ _).after b1 (by simp)
      have G := (K0.keep b1).cell
      have z1 := (K0.keep b1).lt
      have h1w := h1.below B1 (Nat.le_refl _)
      have h4w := h4.below B1 (Nat.le_refl _)
      have hcw : w1.cell? ⟨b, off + s, none⟩ = some (.int .i64 y) := keep B1 hcs
      clear hcs hb
      go_wp2_with (go_at_call 229; refine (HSO.out _).mono ?_; rintro e w' ⟨rfl, rfl⟩)
      have e1 : ∀ z : Ext w1, z.w.cell? ⟨w.heap.size, 1, none⟩ = some (.int .i64 (N : Int)) := fun z => z.cell (G 1)
      have e2 : ∀ z : Ext w1, z.w.cell? ⟨w.heap.size, 2, none⟩ = some (.slice a1 l1.length c1) := fun z => z.cell (G 2)
      have e7 : ∀ z : Ext w1, z.w.cell? ⟨w.heap.size, 7, none⟩ = some (.int .i64 q) := fun z => z.cell (G 7)
      have e8 : ∀ z : Ext w1, z.w.cell? ⟨w.heap.size, 8, none⟩ = some (.int .i64 (s : Int)) := fun z => z.cell (G 8)
      have e9 : ∀ z : Ext w1, z.w.cell? ⟨w.heap.size, 9, none⟩ = some (.slice a4 l4.length c4) := fun z => z.cell (G 9)
      have ey : ∀ z : Ext w1, z.w.cell? ⟨b, off + s, none⟩ = some (.int .i64 y) := fun z => z.cell hcw
      have QA := Lib.hid (fun z : Ext w1 => HAL.out z.w (z.ints h1w))
      have QW := Lib.hid (fun z : Ext w1 => HWT.out z.w (z.ints h4w))
      clear G hcw
      cases hyq : y == q with
      | false =>
        rw [hyq] at HX
        refine wp_region_ext _ (by kernel_rfl) (by kernel_rfl) ?_
        repeat (first | go_big_quiet_skip | (go_big_quiet_want; go_big_quiet_op; first | go_big_quiet_on | (apply Exists.intro; refine ⟨fun _ => ?_, ?_⟩; (first | (go_at_call 127; exact ext_call (QA.out _)) | (go_at_call 132; exact ext_same (QW.out _))); go_big_quiet_on)))
        refine wpQuiet_nil ?_
        rintro w3 ⟨⟨w3, hb3⟩, rfl⟩
        try dsimp only
        go_wp2
        go_ret
        exact ⟨ret_bool HX.out.symm, B1.after hb3 B1.size⟩
      | true =>
        rw [hyq] at HX
        refine wp_region_ext _ (by kernel_rfl) (by kernel_rfl) ?_
        repeat (first | go_big_quiet_skip | (go_big_quiet_want; go_big_quiet_op; first | go_big_quiet_on | (apply Exists.intro; refine ⟨fun _ => ?_, ?_⟩; (first | (go_at_call 127; exact ext_call (QA.out _)) | (go_at_call 132; exact ext_same (QW.out _))); go_big_quiet_on)))
        refine wpQuiet_nil ?_
        rintro w3 ⟨⟨w3, hb3⟩, rfl⟩
        try dsimp only
        go_wp2
        go_ret
        exact ⟨ret_bool HX.out.symm, B1.after hb3 B1.size⟩
end Go.Proofs.YtipejodijbjpcaaGreatDoor
end
