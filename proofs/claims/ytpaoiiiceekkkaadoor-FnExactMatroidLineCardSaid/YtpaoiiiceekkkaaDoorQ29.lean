/- Prices. -/
import Derived.Test.YtpaoiiiceekkkaaDoorQ28
import Derived.StillTailTactics
import Derived.IntWalk
section
namespace Go.Proofs.YtpaoiiiceekkkaaDoor
open Go.RowKit Go.G5

/-- the elements of x below the k-th get the price p -/
def prS (o x : List Int) (p : Int) : Nat → List Int
  | 0 => o
  | k + 1 => (prS o x p k).set (x.getD k 0).toNat p
def prTo (g : Nat) (L : List Int) : Nat → List Int × Int
  | 0 => (List.replicate g 0, 2 ^ g - 1)
  | j + 1 => (prS (prTo g L j).1 (elL (iand (L.getD j 0) (prTo g L j).2)) (60 / ipop (iand (L.getD j 0) (prTo g L j).2)) (elL (iand (L.getD j 0) (prTo g L j).2)).length, idif (prTo g L j).2 (L.getD j 0))
def pricesL (g : Int) (l : List Int) : List Int := if greedyB g l then (prTo g.toNat (greedyL g l) (greedyL g l).length).1 else []
theorem prS_len (o x : List Int) (p : Int) (k : Nat) : (prS o x p k).length = o.length := by
  induction k with
  | zero => rfl
  | succ k ih => rw [prS, List.length_set, ih]
theorem prTo_len (g : Nat) (L : List Int) (j : Nat) : (prTo g L j).1.length = g := by
  induction j with
  | zero => simp [prTo]
  | succ j ih => rw [prTo]; simp only; rw [prS_len, ih]
theorem prTo_left (g : Nat) (hg : g ≤ 6) (L : List Int) (j : Nat) : 0 ≤ (prTo g L j).2 ∧ (prTo g L j).2 < 2 ^ g := by
  have hp := two_pow g 6 hg
  induction j with
  | zero => simp only [prTo]; omega
  | succ j ih => rw [prTo]; exact idif_bd _ _ _ ih.1 ih.2
theorem pricesL_len (g : Int) (l : List Int) : (pricesL g l).length ≤ 1048576 := by
  unfold pricesL
  split
  · rename_i h
    rw [prTo_len]
    unfold greedyB greedyOf at h
    split at h
    · rename_i hf
      obtain ⟨h0, h6, _⟩ := famOk hf
      omega
    · simp at h
  · simp
theorem greedyRun_mem (l : List Int) (hl : ∀ s ∈ l, 0 ≤ s ∧ s < 64) : ∀ n cur L, greedyRun l n cur = some L → ∀ s ∈ L, 0 ≤ s ∧ s < 64 := by
  intro n
  induction n with
  | zero =>
    intro cur L h
    simp only [greedyRun] at h
    split at h
    · cases h; simp
    · cases h
  | succ n ih =>
    intro cur L h
    simp only [greedyRun] at h
    split at h
    · cases h; simp
    · split at h
      · cases h
      · cases hr : greedyRun l n (idif cur (bestOf l cur)) with
        | none => rw [hr] at h; cases h
        | some L' =>
          rw [hr] at h
          cases h
          intro s hs
          rcases List.mem_cons.1 hs with rfl | hs
          · exact best_bd l cur hl
          · exact ih _ _ hr s hs
theorem greedyL_mem (g : Int) (l : List Int) : ∀ s ∈ greedyL g l, 0 ≤ s ∧ s < 64 := by
  unfold greedyL greedyOf
  split
  · rename_i hf
    cases hr : greedyRun l 64 (2 ^ g.toNat - 1) with
    | none => simp
    | some L => exact greedyRun_mem l (fam_mem hf) _ _ _ hr
  · simp
theorem greedyB_fam {g : Int} {l : List Int} (h : greedyB g l = true) : isFamB g l = true := by
  unfold greedyB greedyOf at h
  split at h
  · rename_i hf; exact hf
  · simp at h
theorem greedyL_64 (g : Int) (l : List Int) : (greedyL g l).length ≤ 64 := by
  unfold greedyL greedyOf
  split
  · cases hr : greedyRun l 64 (2 ^ g.toNat - 1) with
    | none => simp
    | some L => exact run_len l _ _ _ hr
  · simp
theorem ipop_elem (s : Int) (h : s < 64) (k : Nat) (hk : k < (elL s).length) : 1 ≤ ipop s ∧ ipop s ≤ 8 := by
  have := elL_pop s h
  have := ipop_bd s (by omega)
  omega

set_option maxHeartbeats 4000000 in
set_option maxRecDepth 100000 in
theorem pricesI_c (w : World) (g : Int) (v : Value) (l : List Int) (hv : Ints w v l) (hl0 : l.length ≤ 1048576) :
    Calls Tryd.prog 85 #[.agg #[.int .i64 g, v]] w fun e w' => ∃ ad i cp, e = .returned (.tuple #[.slice ad i cp, .bool (greedyB g l)]) ∧ OwnI 3 w.heap.size w' (.slice ad i cp) (pricesL g l) ∧ Below w.heap.size w w' := by
  obtain ⟨a, c, rfl⟩ := hv.shape
  obtain ⟨d0, d1, B1, z1⟩ := Box2.new w g (.slice a l.length c) 32
  obtain ⟨W0, hW0⟩ : ∃ W, W = w.alloc (.cells #[.int .i64 g, .slice a l.length c] 32) := ⟨_, rfl⟩
  rw [← hW0] at d0 d1 B1 z1
  go_enter Tryd.func85, Tryd.ntmps85
  go_wp2_with fail
  rw [← hW0]
  clear hW0
  refine (greedyI_c _ g _ l (hv.below B1 (Nat.le_refl _)) hl0).mono ?_
  rintro e w1 ⟨p1, i1, q1, rfl, oL, hb1⟩
  have X1 := (Box2.mk d0 d1 B1 z1).after hb1
  clear hb1 d0 d1 B1 z1
  obtain ⟨d0, d1, B1, z1⟩ := X1
  cases hg : greedyB g l with
  | false =>
    have hx : pricesL g l = [] := by unfold pricesL; rw [hg]; rfl
    have HX := Lib.hid hx
    have HG := Lib.hid hg
    clear hx hg oL
    go_wp2
    go_ret2
    exact ⟨none, 0, 0, by rw [HG.out]; rfl, by rw [HX.out]; exact OwnI.nil _ _ _, B1⟩
  | true =>
    have hf := greedyB_fam hg
    obtain ⟨h0, h6, _⟩ := famOk hf
    obtain ⟨n, rfl⟩ := Int.eq_ofNat_of_zero_le h0
    have hn : n ≤ 6 := by omega
    have hp := two_pow n 6 hn
    have hp1 : (2 : Int) ^ n ≤ 64 := by simpa using hp.1
    have hp2 := hp.2
    have hx : pricesL n l = (prTo n (greedyL n l) (greedyL n l).length).1 := by unfold pricesL; rw [hg]; rfl
    have hLm := greedyL_mem n l
    have hL64 := greedyL_64 n l
    obtain ⟨L, hLe⟩ : ∃ L, L = greedyL n l := ⟨_, rfl⟩
    rw [← hLe] at hx hLm hL64 oL
    obtain ⟨p1', q1', e1⟩ := oL.shape
    simp only [Value.slice.injEq] at e1
    obtain ⟨rfl, rfl, rfl⟩ := e1
    have hgr : ∀ W, Ints W (.slice a l.length c) l → Calls Tryd.prog 145 #[.agg #[.int .i64 n, .slice a l.length c]] W fun e w' => e = .returned (.int .i64 (prTo n L 0).2) ∧ Below W.heap.size W w' := fun W hW => groundOf_any n _ l W hW (by omega) (by omega)
    have HGR := Lib.hid hgr
    have HX := Lib.hid hx
    have HLM := Lib.hid hLm
    have HOL := Lib.hid oL
    have rL := oL.lt
    have HG := Lib.hid hg
    clear hx hLm hLe hg hf hp hgr oL
    go_wp2_with (at_make; refine wpList_makeI rfl _ _ _ rfl 3 Tryd.underlying22 intElem n _ _ rfl rfl rfl rfl (by omega) ?_; intro w2 hown hg; have X2 := (Box2.mk d0 d1 B1 z1).grow hg (by simp); have hgs := hg.size; have rO := hown.lt; have oL2 := HOL.out.grow hg (by intro k hk; cases hk); have hv2 := hv.below X2.B (Nat.le_refl _); clear hg d0 d1; obtain ⟨d0, d1, B2, z2⟩ := X2)
    refine (HGR.out _ hv2).mono ?_
    rintro e w3 ⟨rfl, hb3⟩
    have X3 := (Box2.mk d0 d1 B2 z2).after hb3
    have own3 := hown.keep hb3
    have oL3 := oL2.keep hb3
    have hw12 : w1.heap.size < w2.heap.size := (rO _ rfl).2
    have z3 := hb3.size
    clear d0 d1 B2 z2 hown oL2 hb3 rO
    go_wp2_with fail
    go_loopw [7, 26] (fun lf i wr => ∃ j : Nat, j ≤ L.length ∧ i = .int .i64 j ∧ lf = .int .i64 (prTo n L j).2 ∧ OwnI 3 w1.heap.size wr (.slice (some ⟨w1.heap.size, 0, none⟩) n n) (prTo n L j).1 ∧ OwnI 3 W0.heap.size wr (.slice p1 L.length q1) L ∧ Box2 w wr n (.slice a l.length c) ∧ w2.heap.size ≤ wr.heap.size)
      (fun _ i _ => L.length - (intOf i).toNat)
    case atStart => exact ⟨0, Nat.zero_le _, rfl, rfl, own3, oL3, X3, z3⟩
    case round =>
      obtain ⟨j, hj, rfl, rfl, ow, oL, X, zr⟩ := hrel
      obtain ⟨wo, rfl⟩ : ∃ wo : World, wo = wr := ⟨_, rfl⟩
      clear own3 oL3 X3
      have hleft := prTo_left n hn L j
      have hol := prTo_len n L j
      by_cases hlt : j < L.length
      · have hsm := HLM.out _ (List.getElem_mem hlt)
        have hgd : L.getD j 0 = L[j] := by rw [List.getD_eq_getElem?_getD, List.getElem?_eq_getElem hlt]; rfl
        have hnx : prTo n L (j + 1) = (prS (prTo n L j).1 (elL (iand L[j] (prTo n L j).2)) (60 / ipop (iand L[j] (prTo n L j).2)) (elL (iand L[j] (prTo n L j).2)).length, idif (prTo n L j).2 L[j]) := by rw [prTo, hgd]
        obtain ⟨aL, bL, offL, cL, eL, hlenL, hixL, hcL, hbL⟩ := oL.ints.view Tryd.prog 22 3 Tryd.underlying22 intElem
        simp only [Value.slice.injEq] at eL
        obtain ⟨rfl, _, rfl⟩ := eL
        have hcLj := hcL j hlt
        have hixj := fun w' => hixL w' j hlt
        obtain ⟨s, hs⟩ : ∃ s, s = L[j] := ⟨_, rfl⟩
        rw [← hs] at hsm hnx hcLj
        obtain ⟨o, ho⟩ : ∃ o, o = (prTo n L j).1 := ⟨_, rfl⟩
        obtain ⟨lf, hlf⟩ : ∃ lf, lf = (prTo n L j).2 := ⟨_, rfl⟩
        rw [← ho] at hol ow hnx
        rw [← hlf] at hleft hnx ⊢
        have hs0 := hsm.1
        have hs1 := hsm.2
        have hl0 := hleft.1
        have hl1 := hleft.2
        have hA := iand_is hs0 (show s < 4611686018427387904 by omega) hl0 (by omega)
        have hD := idif_is hl0 (by omega) hs0 hs1
        have hxb := iand_bd s lf 64 hs0 hs1
        have hxn : (iand s lf).toNat < 2 ^ n := by
          have h1 := @Nat.and_le_right s.toNat lf.toNat
          have h2 : ((2 ^ n : Nat) : Int) = (2 : Int) ^ n := by push_cast; rfl
          unfold iand; omega
        have hel := elL_bd (iand s lf) n hn hxn
        obtain ⟨x, hx⟩ : ∃ x, x = iand s lf := ⟨_, rfl⟩
        rw [← hx] at hA hxb hel hnx
        have hze := ipop_elem x (by omega)
        obtain ⟨E, hE⟩ : ∃ E, E = elL x := ⟨_, rfl⟩
        obtain ⟨z, hz⟩ : ∃ z, z = ipop x := ⟨_, rfl⟩
        have hels : ∀ W, Calls Tryd.prog 143 #[.int .i64 x] W fun e w' => ∃ ad i cp, e = .returned (.slice ad i cp) ∧ OwnI 3 W.heap.size w' (.slice ad i cp) E ∧ Below W.heap.size W w' := fun W => by
          rw [hE]; exact elementsOf_i x W hxb.1 hxb.2
        have hszs : ∀ W, Calls Tryd.prog 128 #[.int .i64 x] W fun e w' => e = .returned (.int .i64 z) ∧ W = w' := fun W => by
          rw [hz]; exact sizeOf_i x W hxb.1 (by omega)
        rw [← hE] at hel hnx hze
        rw [← hz] at hze hnx
        have HNX := Lib.hid hnx
        have HEL := Lib.hid hel
        have HZE := Lib.hid hze
        have HELS := Lib.hid hels
        have HSZ := Lib.hid hszs
        have HW := Lib.hid ow
        have HLL := Lib.hid oL
        obtain ⟨d0, d1, B3, z3'⟩ := X
        clear hsm hgd hnx hs ho hlf hleft hxb hxn hel hze hels hszs hE hz hx hcL hixL ow oL
        go_wp2_with fail
        refine (HELS.out _).mono ?_
        rintro e w4 ⟨p4, i4, q4, rfl, oE, hb4⟩
        obtain ⟨p4', q4', e4⟩ := oE.shape
        simp only [Value.slice.injEq] at e4
        obtain ⟨rfl, rfl, rfl⟩ := e4
        have X4 := (Box2.mk d0 d1 B3 z3').after hb4
        have ow4 := HW.out.keep hb4
        have oL4 := HLL.out.keep hb4
        have z4 := hb4.size
        have rE := oE.lt
        clear d0 d1 hcLj hixj hb4
        go_wp2_with fail
        go_loopw [35] (fun i wr => ∃ k : Nat, k ≤ E.length ∧ i = .int .i64 k ∧ OwnI 3 w1.heap.size wr (.slice (some ⟨w1.heap.size, 0, none⟩) n n) (prS o E (60 / z) k) ∧ OwnI 3 wo.heap.size wr (.slice p4 E.length q4) E ∧ OwnI 3 W0.heap.size wr (.slice p1 L.length q1) L ∧ Box2 w wr n (.slice a l.length c) ∧ w2.heap.size ≤ wr.heap.size)
          (fun i _ => E.length - (intOf i).toNat)
        case atStart => exact ⟨0, Nat.zero_le _, rfl, ow4, oE, oL4, X4, by omega⟩
        case round =>
          obtain ⟨k, hk, rfl, ow, oE, oL, X, zi⟩ := hrel
          obtain ⟨wi, rfl⟩ : ∃ wi : World, wi = wr := ⟨_, rfl⟩
          clear ow4 oL4 X4
          obtain ⟨d0, d1, B4, z4'⟩ := X
          have hpl := prS_len o E (60 / z) k
          rw [hol] at hpl
          by_cases hke : k < E.length
          · obtain ⟨aE, bE, offE, cE, eE, hlenE, hixE, hcE, hbE⟩ := oE.ints.view Tryd.prog 22 3 Tryd.underlying22 intElem
            simp only [Value.slice.injEq] at eE
            obtain ⟨rfl, _, rfl⟩ := eE
            have hcEk := hcE k hke
            have hixk := fun w' => hixE w' k hke
            have hem := HEL.out _ (List.getElem_mem hke)
            have hzz := HZE.out k hke
            obtain ⟨e, he⟩ : ∃ e : Nat, E[k] = (e : Int) := ⟨E[k].toNat, by omega⟩
            rw [he] at hcEk hem
            have hpn : prS o E (60 / z) (k + 1) = (prS o E (60 / z) k).set e (60 / z) := by
              rw [prS, show (E.getD k 0).toNat = e by rw [List.getD_eq_getElem?_getD, List.getElem?_eq_getElem hke, Option.getD_some, he]; omega]
            have hen : e < n := by omega
            have hz0 := hzz.1
            have hz1 := hzz.2
            have hq0 : 0 ≤ 60 / z := Int.ediv_nonneg (by omega) (by omega)
            have hq1 : 60 / z ≤ 60 := Int.ediv_le_self _ (by omega)
            have hst := ow.stored hpl.symm e (60 / z) ⟨by omega, by omega⟩
            have hcell : ∃ q, wi.cell? ⟨w1.heap.size, e, none⟩ = some q := ⟨_, ow.cellAt hpl.symm e (by rw [hpl]; exact hen)⟩
            obtain ⟨q, hcell⟩ := hcell
            have hfr := ow.frozenAt hpl.symm e
            rw [← hpn] at hst
            have HST := Lib.hid hst
            have HEE := Lib.hid oE
            have HLL2 := Lib.hid oL
            have he0 : (0 : Int) ≤ (e : Int) := Int.natCast_nonneg _
            have hen1 : (e : Int) < (n : Int) := by omega
            have hzne : (z == 0) = false := by simp; omega
            clear hpl hcE hixE he hpn hst ow oE oL hem hzz
            go_wp2_with (go_at_call 128; refine (HSZ.out _).mono ?_; rintro e' w' ⟨rfl, rfl⟩)
            go_roundw
            case rel => exact ⟨k + 1, by omega, by go_num, HST.out.1, HEE.out.grow HST.out.2 (fun q hq hq2 => by cases hq; have := (rE _ hq2).1; omega), HLL2.out.grow HST.out.2 (fun q hq hq2 => by cases hq; have := (rL _ hq2).2; omega), (Box2.mk d0 d1 B4 z4').grow HST.out.2 (by simp; omega), by have := HST.out.2.size; omega⟩
            case measure => simp [intOf]; omega
          · have hke2 : k = E.length := by omega
            subst hke2
            have HW2 := Lib.hid ow
            have HLL2 := Lib.hid oL
            clear ow oL oE hpl
            go_wp2
            go_roundw
            case rel => exact ⟨j + 1, by omega, by go_num, by rw [HNX.out], by rw [HNX.out]; exact HW2.out, HLL2.out, ⟨d0, d1, B4, z4'⟩, zi⟩
            case measure => simp [intOf]; omega
      · have hjj : j = L.length := by omega
        subst hjj
        obtain ⟨d0, d1, B3, z3'⟩ := X
        have HW := Lib.hid ow
        clear ow oL hleft hol
        go_wp2
        go_ret2
        exact ⟨_, _, _, by rw [HG.out]; rfl, by rw [HX.out]; exact HW.out.mono B1.size, B3⟩
theorem isub_is2 {a b : Int} (h0 : 0 ≤ a) : a - iand a b = idif a b := by
  have := @Nat.and_le_left a.toNat b.toNat
  unfold iand idif ndiff; omega

set_option maxHeartbeats 4000000 in
set_option maxRecDepth 100000 in
theorem pricesS_c (w : World) (g : Int) (v : Value) (l : List Int) (hv : Ints w v l) (hl0 : l.length ≤ 1048576) :
    Calls Tryd.prog 77 #[.agg #[.int .i64 g, v]] w fun e w' => ∃ ad i cp, e = .returned (.tuple #[.slice ad i cp, .bool (greedyB g l)]) ∧ OwnI 3 w.heap.size w' (.slice ad i cp) (pricesL g l) ∧ Below w.heap.size w w' := by
  obtain ⟨a, c, rfl⟩ := hv.shape
  obtain ⟨d0, d1, B1, z1⟩ := Box2.new w g (.slice a l.length c) 32
  obtain ⟨W0, hW0⟩ : ∃ W, W = w.alloc (.cells #[.int .i64 g, .slice a l.length c] 32) := ⟨_, rfl⟩
  rw [← hW0] at d0 d1 B1 z1
  go_enter Tryd.func77, Tryd.ntmps77
  go_wp2_with fail
  rw [← hW0]
  clear hW0
  refine (greedyS_c _ g _ l (hv.below B1 (Nat.le_refl _)) hl0).mono ?_
  rintro e w1 ⟨p1, i1, q1, rfl, oL, hb1⟩
  have X1 := (Box2.mk d0 d1 B1 z1).after hb1
  clear hb1 d0 d1 B1 z1
  obtain ⟨d0, d1, B1, z1⟩ := X1
  cases hg : greedyB g l with
  | false =>
    have hx : pricesL g l = [] := by unfold pricesL; rw [hg]; rfl
    have HX := Lib.hid hx
    have HG := Lib.hid hg
    clear hx hg oL
    go_wp2
    go_ret2
    exact ⟨_, _, _, by rw [HG.out]; rfl, by rw [HX.out]; exact OwnI.lit0 w1 B1.size, B1.alloc B1.size _⟩
  | true =>
    have hf := greedyB_fam hg
    obtain ⟨h0, h6, _⟩ := famOk hf
    obtain ⟨n, rfl⟩ := Int.eq_ofNat_of_zero_le h0
    have hn : n ≤ 6 := by omega
    have hp := two_pow n 6 hn
    have hp1 : (2 : Int) ^ n ≤ 64 := by simpa using hp.1
    have hp2 := hp.2
    have hx : pricesL n l = (prTo n (greedyL n l) (greedyL n l).length).1 := by unfold pricesL; rw [hg]; rfl
    have hLm := greedyL_mem n l
    have hL64 := greedyL_64 n l
    obtain ⟨L, hLe⟩ : ∃ L, L = greedyL n l := ⟨_, rfl⟩
    rw [← hLe] at hx hLm hL64 oL
    obtain ⟨p1', q1', e1⟩ := oL.shape
    simp only [Value.slice.injEq] at e1
    obtain ⟨rfl, rfl, rfl⟩ := e1
    have hgr : ∀ W, Calls Tryd.prog 109 #[.int .i64 n] W fun e w' => e = .returned (.int .i64 (prTo n L 0).2) ∧ W = w' := fun W => l2Full_any n W (by omega)
    have HGR := Lib.hid hgr
    have HX := Lib.hid hx
    have HLM := Lib.hid hLm
    have HOL := Lib.hid oL
    have rL := oL.lt
    have HG := Lib.hid hg
    clear hx hLm hLe hg hf hp hgr oL
    go_wp2_with (at_make; refine wpList_makeI rfl _ _ _ rfl 3 Tryd.underlying22 intElem n _ _ rfl rfl rfl rfl (by omega) ?_; intro w2 hown hg; have X2 := (Box2.mk d0 d1 B1 z1).grow hg (by simp); have hgs := hg.size; have rO := hown.lt; have oL2 := HOL.out.grow hg (by intro k hk; cases hk); have hv2 := hv.below X2.B (Nat.le_refl _); clear hg d0 d1; obtain ⟨d0, d1, B2, z2⟩ := X2)
    refine (HGR.out _).mono ?_
    rintro e w3 ⟨rfl, rfl⟩
    have X3 := Box2.mk d0 d1 B2 z2
    have hw12 : w1.heap.size < w2.heap.size := (rO _ rfl).2
    clear rO
    go_wp2_with fail
    go_loopw [7, 8] (fun lf i wr => ∃ j : Nat, j ≤ L.length ∧ i = .int .i64 j ∧ lf = .int .i64 (prTo n L j).2 ∧ OwnI 3 w1.heap.size wr (.slice (some ⟨w1.heap.size, 0, none⟩) n n) (prTo n L j).1 ∧ OwnI 3 W0.heap.size wr (.slice p1 L.length q1) L ∧ Box2 w wr n (.slice a l.length c) ∧ w2.heap.size ≤ wr.heap.size)
      (fun _ i _ => L.length - (intOf i).toNat)
    case atStart => exact ⟨0, Nat.zero_le _, rfl, rfl, hown, oL2, X3, Nat.le_refl _⟩
    case round =>
      obtain ⟨j, hj, rfl, rfl, ow, oL, X, zr⟩ := hrel
      obtain ⟨wo, rfl⟩ : ∃ wo : World, wo = wr := ⟨_, rfl⟩
      clear hown oL2 X3
      have hleft := prTo_left n hn L j
      have hol := prTo_len n L j
      by_cases hlt : j < L.length
      · have hsm := HLM.out _ (List.getElem_mem hlt)
        have hgd : L.getD j 0 = L[j] := by rw [List.getD_eq_getElem?_getD, List.getElem?_eq_getElem hlt]; rfl
        have hnx : prTo n L (j + 1) = (prS (prTo n L j).1 (elL (iand L[j] (prTo n L j).2)) (60 / ipop (iand L[j] (prTo n L j).2)) (elL (iand L[j] (prTo n L j).2)).length, idif (prTo n L j).2 L[j]) := by rw [prTo, hgd]
        obtain ⟨aL, bL, offL, cL, eL, hlenL, hixL, hcL, hbL⟩ := oL.ints.view Tryd.prog 22 3 Tryd.underlying22 intElem
        simp only [Value.slice.injEq] at eL
        obtain ⟨rfl, _, rfl⟩ := eL
        have hcLj := hcL j hlt
        have hixj := fun w' => hixL w' j hlt
        obtain ⟨s, hs⟩ : ∃ s, s = L[j] := ⟨_, rfl⟩
        rw [← hs] at hsm hnx hcLj
        obtain ⟨o, ho⟩ : ∃ o, o = (prTo n L j).1 := ⟨_, rfl⟩
        obtain ⟨lf, hlf⟩ : ∃ lf, lf = (prTo n L j).2 := ⟨_, rfl⟩
        rw [← ho] at hol ow hnx
        rw [← hlf] at hleft hnx ⊢
        have hs0 := hsm.1
        have hs1 := hsm.2
        have hl0 := hleft.1
        have hl1 := hleft.2
        have hA := iand_is hs0 (show s < 4611686018427387904 by omega) hl0 (by omega)
        have hA2 := iand_is hl0 (show lf < 4611686018427387904 by omega) hs0 (show s < 4611686018427387904 by omega)
        have hD := isub_is2 (a := lf) (b := s) hl0
        have hD2 := iand_bd lf s 64 hl0 (by omega)
        have hD3 := idif_bd lf s 64 hl0 (by omega)
        have hxb := iand_bd s lf 64 hs0 hs1
        have hxn : (iand s lf).toNat < 2 ^ n := by
          have h1 := @Nat.and_le_right s.toNat lf.toNat
          have h2 : ((2 ^ n : Nat) : Int) = (2 : Int) ^ n := by push_cast; rfl
          unfold iand; omega
        have hel := elL_bd (iand s lf) n hn hxn
        obtain ⟨x, hx⟩ : ∃ x, x = iand s lf := ⟨_, rfl⟩
        rw [← hx] at hA hxb hel hnx
        have hze := ipop_elem x (by omega)
        obtain ⟨E, hE⟩ : ∃ E, E = elL x := ⟨_, rfl⟩
        obtain ⟨z, hz⟩ : ∃ z, z = ipop x := ⟨_, rfl⟩
        have hels : ∀ W, Calls Tryd.prog 110 #[.int .i64 x] W fun e w' => ∃ ad i cp, e = .returned (.slice ad i cp) ∧ OwnI 3 W.heap.size w' (.slice ad i cp) E ∧ Below W.heap.size W w' := fun W => by
          rw [hE]; exact l2List_i x W hxb.1 hxb.2
        have hzlen : ((elL x).length : Int) = z := by rw [hz]; exact elL_pop x (by omega)
        rw [← hE] at hel hnx hze hzlen
        rw [← hz] at hze hnx
        have HNX := Lib.hid hnx
        have HSE := Lib.hid hs
        have HEL := Lib.hid hel
        have HZE := Lib.hid hze
        have HELS := Lib.hid hels
        have HZL := Lib.hid hzlen
        have HW := Lib.hid ow
        have HLL := Lib.hid oL
        obtain ⟨d0, d1, B3, z3'⟩ := X
        clear hsm hgd hnx hs ho hlf hleft hxb hxn hel hze hels hzlen hE hz hx hcL hixL ow oL
        go_wp2_with fail
        refine (HELS.out _).mono ?_
        rintro e w4 ⟨p4, i4, q4, rfl, oE, hb4⟩
        obtain ⟨p4', q4', e4⟩ := oE.shape
        simp only [Value.slice.injEq] at e4
        obtain ⟨rfl, rfl, rfl⟩ := e4
        have X4 := (Box2.mk d0 d1 B3 z3').after hb4
        have ow4 := HW.out.keep hb4
        have oL4 := HLL.out.keep hb4
        have z4 := hb4.size
        have rE := oE.lt
        clear d0 d1 hcLj hixj hb4
        go_wp2_with fail
        go_loopw [10] (fun i wr => ∃ k : Nat, k ≤ E.length ∧ i = .int .i64 k ∧ OwnI 3 w1.heap.size wr (.slice (some ⟨w1.heap.size, 0, none⟩) n n) (prS o E (60 / z) k) ∧ OwnI 3 wo.heap.size wr (.slice p4 E.length q4) E ∧ OwnI 3 W0.heap.size wr (.slice p1 L.length q1) L ∧ Box2 w wr n (.slice a l.length c) ∧ w2.heap.size ≤ wr.heap.size)
          (fun i _ => E.length - (intOf i).toNat)
        case atStart => exact ⟨0, Nat.zero_le _, rfl, ow4, oE, oL4, X4, by omega⟩
        case round =>
          obtain ⟨k, hk, rfl, ow, oE, oL, X, zi⟩ := hrel
          obtain ⟨wi, rfl⟩ : ∃ wi : World, wi = wr := ⟨_, rfl⟩
          clear ow4 oL4 X4
          obtain ⟨d0, d1, B4, z4'⟩ := X
          have hpl := prS_len o E (60 / z) k
          rw [hol] at hpl
          by_cases hke : k < E.length
          · obtain ⟨aE, bE, offE, cE, eE, hlenE, hixE, hcE, hbE⟩ := oE.ints.view Tryd.prog 22 3 Tryd.underlying22 intElem
            simp only [Value.slice.injEq] at eE
            obtain ⟨rfl, _, rfl⟩ := eE
            have hcEk := hcE k hke
            have hixk := fun w' => hixE w' k hke
            have hem := HEL.out _ (List.getElem_mem hke)
            have hzz := HZE.out k hke
            obtain ⟨e, he⟩ : ∃ e : Nat, E[k] = (e : Int) := ⟨E[k].toNat, by omega⟩
            rw [he] at hcEk hem
            have hpn : prS o E (60 / z) (k + 1) = (prS o E (60 / z) k).set e (60 / z) := by
              rw [prS, show (E.getD k 0).toNat = e by rw [List.getD_eq_getElem?_getD, List.getElem?_eq_getElem hke, Option.getD_some, he]; omega]
            have hen : e < n := by omega
            have hz0 := hzz.1
            have hz1 := hzz.2
            have hq0 : 0 ≤ 60 / z := Int.ediv_nonneg (by omega) (by omega)
            have hq1 : 60 / z ≤ 60 := Int.ediv_le_self _ (by omega)
            have hst := ow.stored hpl.symm e (60 / z) ⟨by omega, by omega⟩
            have hcell : ∃ q, wi.cell? ⟨w1.heap.size, e, none⟩ = some q := ⟨_, ow.cellAt hpl.symm e (by rw [hpl]; exact hen)⟩
            obtain ⟨q, hcell⟩ := hcell
            have hfr := ow.frozenAt hpl.symm e
            rw [← hpn] at hst
            have HST := Lib.hid hst
            have HEE := Lib.hid oE
            have HLL2 := Lib.hid oL
            have he0 : (0 : Int) ≤ (e : Int) := Int.natCast_nonneg _
            have hen1 : (e : Int) < (n : Int) := by omega
            have hzne : (z == 0) = false := by simp; omega
            clear hpl hcE hixE he hpn hst ow oE oL hem hzz
            have hzl2 := HZL.out
            have hzne2 : ((E.length : Int) == 0) = false := by rw [beq_eq_false_iff_ne]; omega
            have hqq : (60 : Int) / (E.length : Int) = 60 / z := by rw [hzl2]
            have HQQ := Lib.hid hqq
            have hEl1 : (1 : Int) ≤ (E.length : Int) := by omega
            have hEne : E ≠ [] := by intro h; rw [h] at hke; simp at hke
            clear hqq hzl2
            go_wp2
            go_still_tail 9, (by kernel_rfl)
            go_wp2
            have hst2 := HST.out
            rw [← HQQ.out] at hst2
            go_roundw
            case rel => exact ⟨k + 1, by omega, by go_num, by rw [← HQQ.out]; exact hst2.1.drewN 1, (HEE.out.grow hst2.2 (fun q hq hq2 => by cases hq; have := (rE _ hq2).1; omega)).drewN 1, (HLL2.out.grow hst2.2 (fun q hq hq2 => by cases hq; have := (rL _ hq2).2; omega)).drewN 1, ((Box2.mk d0 d1 B4 z4').grow hst2.2 (by simp; omega)).drewN 1, by have := hst2.2.size; simp at this ⊢; omega⟩
            case measure => simp [intOf]; omega
          · have hke2 : k = E.length := by omega
            subst hke2
            obtain ⟨aL, bL, offL, cL, eL, hlenL, hixL, hcL, hbL⟩ := oL.ints.view Tryd.prog 22 3 Tryd.underlying22 intElem
            simp only [Value.slice.injEq] at eL
            obtain ⟨rfl, _, rfl⟩ := eL
            have hcLj := hcL j hlt
            have hixj := fun w' => hixL w' j hlt
            rw [← HSE.out] at hcLj
            have HW2 := Lib.hid ow
            have HLL2 := Lib.hid oL
            clear ow oL oE hpl hcL hixL
            go_wp2
            go_roundw
            case rel => exact ⟨j + 1, by omega, by go_num, by rw [HNX.out], by rw [HNX.out]; exact HW2.out, HLL2.out, ⟨d0, d1, B4, z4'⟩, zi⟩
            case measure => simp [intOf]; omega
      · have hjj : j = L.length := by omega
        subst hjj
        obtain ⟨d0, d1, B3, z3'⟩ := X
        have HW := Lib.hid ow
        clear ow oL hleft hol
        go_wp2
        go_ret2
        exact ⟨_, _, _, by rw [HG.out]; rfl, by rw [HX.out]; exact HW.out.mono B1.size, B3⟩
end Go.Proofs.YtpaoiiiceekkkaaDoor
end
