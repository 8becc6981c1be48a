/- The greatest excess: the first program. Powers of elements. -/
import Derived.Test.YtpaoiiiceekkkaaDoorQ33
import Derived.Lib.MinMax
import Derived.Deep.RegionLaw
import Derived.StillTailTactics
section
namespace Go.Proofs.YtpaoiiiceekkkaaDoor
open Go.RowKit Go.G5

def gapRel (w : World) (ob : Nat) (n : Nat) (v : Value) (a : Int) (W : World) : Prop :=
  Below w.heap.size w W ∧ Blk W w.heap.size 31 #[.int .i64 n, v] ∧ Blk W ob 3 #[.int .i64 a]
theorem gapRel_mono (w : World) (ob : Nat) (n : Nat) (v : Value) (a : Int) (W W' : World) (h : gapRel w ob n v a W) (hb : Below W.heap.size W W') : gapRel w ob n v a W' := by
  obtain ⟨h1, h2, h3⟩ := h
  exact ⟨h1.after hb h1.size, h2.keep hb, h3.keep hb⟩
set_option maxHeartbeats 2000000 in
set_option maxRecDepth 100000 in
theorem gapClosure (w : World) (ob : Nat) (hob : w.heap.size < ob) (n : Nat) (hn : n ≤ 5) (l : List Int) (v : Value) (hv : Ints w v l) (hl : l.length = 2 ^ n) (hlb : ∀ k, (hk : k < l.length) → -1000 ≤ l[k] ∧ l[k] ≤ 1000) (a : Int) (s i k : Nat) (W : World) (hs : s < 2 ^ n) (hik : i < k) (hk : k < n) (hR : gapRel w ob n v a W) :
    Calls Tryd.prog 126 #[.int .i64 s, .int .i64 i, .int .i64 k, .pointer (some ⟨ob, 0, none⟩), .pointer (some ⟨w.heap.size, 0, none⟩)] W fun e w' =>
      e = .returned (.bool (gstep l a (s, i, k)).2) ∧ gapRel w ob n v (gstep l a (s, i, k)).1 w' ∧ GrownIn W w' (fun b => b = ob) := by
  obtain ⟨B, Kf, Ko⟩ := hR
  have hp5 : (2 : Nat) ^ n ≤ 32 := Nat.pow_le_pow_right (n := 2) (by decide) hn
  have hex : ∀ V, Ints V v l → Calls Tryd.prog 127 #[.agg #[.int .i64 n, v], .int .i64 s, .int .i64 i, .int .i64 k] V fun e w' => e = .returned (.int .i64 (exL l s i k)) ∧ Below V.heap.size V w' := fun V hV => excess_any n hn l v V hV hl hlb s i k hs (by omega) hk
  have hst : gstep l a (s, i, k) = (max a (exL l s i k), true) := rfl
  obtain ⟨av, cv, rfl⟩ := hv.shape
  obtain ⟨x, hx⟩ : ∃ x, x = exL l s i k := ⟨_, rfl⟩
  simp only [← hx] at hex hst
  rw [hst]
  have G1 := Kf.cell
  have yB := B.size
  have zf := Kf.lt
  have zo := Ko.lt
  have HEX := Lib.hid hex
  clear hl hlb hx hex hs hst
  have Go := Ko.cell
  have Fo := Ko.frozen
  go_enter Tryd.func126, Tryd.ntmps126
  go_wp2_with fail
  have hvd : Ints W.drew (.slice av l.length cv) l := (hv.below B (Nat.le_refl _)).drew'
  have Kod : Blk W.drew ob 3 #[.int .i64 a] := Ko
  have Kfd : Blk W.drew w.heap.size 31 #[.int .i64 n, .slice av l.length cv] := Kf
  have Bd : Below w.heap.size w W.drew := B.drew
  go_region_law
    (first
      | (go_simp; go_at_call 127; refine (HEX.out _ hvd).mono ?_; rintro e w1 ⟨rfl, hb1⟩; have Ko1 := Kod.keep hb1; have Go1 := Ko1.cell; have Fo1 := Ko1.frozen))
  all_goals
    have Kf1 := Kfd.keep hb1
    have b1 : Below W.heap.size W w1 := ((Below.refl W.heap.size W).drewN' 1).after hb1 (by simp)
    have B1 := B.after b1 B.size
    clear Go G1 Fo
    go_wp2
    refine post_named ?_
    intro Wf hWf
    have KO : Blk Wf ob 3 #[.int .i64 (max a x)] := by
      rw [hWf]
      have := Ko1.set 0 (.int .i64 (max a x))
      simpa using this
    have gF : w1.grownBy Wf (some ob) := by rw [hWf]; exact grow_set (World.grownBy.refl _ _) 0 _
    have KF := Kf1.grow gF (by intro h; have := Option.some.inj h; omega)
    have BF := B1.grown gF B1.size (fun q hq => by have := Option.some.inj hq; omega)
    have hgr := (GrownIn.of_below (P := fun b => b = ob) b1).trans (GrownIn.of_row gF (fun q hq => (Option.some.inj hq).symm))
    clear hWf Go1 Fo1
    go_ret
    exact ⟨rfl, ⟨BF, KF, KO⟩, hgr⟩
theorem gapClosure_enters : ∀ args w, (callFunc 126 args).run Tryd.prog w = .ok (.enter 126 args) w := enters_of Tryd.func126 (by kernel_rfl) rfl

set_option maxHeartbeats 2000000 in
set_option maxRecDepth 100000 in
theorem gapI_any (w : World) (n : Int) (v : Value) (l : List Int) (hv : Ints w v l) :
    Calls Tryd.prog 56 #[.agg #[.int .i64 n, v]] w fun e w' => e = .returned (.tuple #[.int .i64 (gapN n l), .bool (isFunB n l)]) ∧ Below w.heap.size w w' := by
  have hv0 := hv
  obtain ⟨a, c, rfl⟩ := hv.shape
  have hmf : ∀ (fn : Fn) (first cap : Array Value) (w : World), (Instr.makeFunc fn first cap).run Tryd.prog w = .ok (.func fn first cap) w := fun _ _ _ _ => rfl
  have K0 := Blk.new w 31 #[.int .i64 n, .slice a l.length c]
  cases hf : isFunB n l with
  | false =>
    have hg : gapN n l = 0 := by unfold gapN; rw [hf]; rfl
    have HG := Lib.hid hg
    have HF := Lib.hid hf
    clear hg hf
    go_enter Tryd.func56, Tryd.ntmps56
    go_wp2_with (go_at_call 55; refine (isFunI_any n l _ _ (hv0.alloc _)).mono ?_; rintro e w1 ⟨rfl, hb1⟩; rw [HF.out])
    go_ret2
    exact ⟨by rw [HG.out]; rfl, (bl1 _ _).after hb1 (by simp)⟩
  | true =>
    obtain ⟨N, rfl, hN5, hl2, hl32, hlb⟩ := fun_nat hf
    have hr : gapN (N : Int) l = (runT (gstep l) (tri3 N (2 ^ N)) 0).1 := by unfold gapN gapT; rw [hf, if_pos rfl, Int.toNat_natCast]
    have hvis : ∀ ob V, w.heap.size < ob → gapRel w ob N (.slice a l.length c) 0 V → Calls Tryd.prog 125 #[.agg #[.int .i64 N, .slice a l.length c], .func (.func 126) #[] #[.pointer (some ⟨ob, 0, none⟩), .pointer (some ⟨w.heap.size, 0, none⟩)]] V fun e w' =>
        e = .returned (.tuple #[]) ∧ gapRel w ob N (.slice a l.length c) (gapN N l) w' ∧ GrownIn V w' (fun b => b = ob) := fun ob V hob hV => by
      rw [hr]
      refine visitPairs_any N hN5 l _ hl2 126 gapClosure_enters _ _ (gstep l) (gapRel w ob N (.slice a l.length c)) _ (gapRel_mono w ob N _) V ⟨a, c, rfl⟩ (fun b hb => by have := hV.2.2.lt; omega) ?_ 0 hV
      intro a' s i k W hs hik hk _ _ hR _
      exact gapClosure w ob hob N hN5 l _ hv0 hl2 hlb a' s i k W hs hik hk hR
    have HV := Lib.hid hvis
    have HF := Lib.hid hf
    clear hvis hr hf hl2 hlb
    obtain ⟨M, hM⟩ : ∃ M, M = gapN (N : Int) l := ⟨_, rfl⟩
    rw [← hM] at HV ⊢
    clear hM
    go_enter Tryd.func56, Tryd.ntmps56
    go_wp2_with fail
    refine (isFunI_any N l _ _ (hv0.alloc _)).mono ?_
    rintro e w1 ⟨rfl, hb1⟩
    rw [HF.out]
    have K1 := K0.keep hb1
    have B1 : Below w.heap.size w w1 := (bl1 _ _).after hb1 (by simp)
    have G1 := K1.cell
    have z1 := K1.lt
    clear hb1 K0
    go_wp2_with fail
    have R0 : gapRel w w1.heap.size N (.slice a l.length c) 0 (w1.alloc (.cells #[.int .i64 0] 3)) := ⟨B1.alloc B1.size _, K1.alloc _, Blk.new _ _ _⟩
    refine (HV.out w1.heap.size _ z1 R0).mono ?_
    rintro e w2 ⟨rfl, ⟨B2, K2, Ko⟩, hg2⟩
    clear G1 R0
    have Go := Ko.cell
    go_wp2
    go_ret2
    exact ⟨rfl, B2⟩
end Go.Proofs.YtpaoiiiceekkkaaDoor
end
section
namespace Go.Proofs.YtpaoiiiceekkkaaDoor
open Go.RowKit Go.G5

theorem cornerL_bd (l o : List Int) (hl : l.length = 2 ^ o.length) (hlb : ∀ k, (hk : k < l.length) → -1000 ≤ l[k] ∧ l[k] ≤ 1000) (ho : ∀ x ∈ o, 0 ≤ x ∧ x < o.length) :
    ∀ x ∈ cornerL l o, -2000 ≤ x ∧ x ≤ 2000 := by
  have h : ∀ k, k ≤ o.length → ∀ x ∈ cornerTo l o k, -2000 ≤ x ∧ x ≤ 2000 := by
    intro k
    induction k with
    | zero =>
      intro _ x hx
      have := List.eq_of_mem_replicate hx
      omega
    | succ k ih =>
      intro hk x hx
      rw [cornerTo] at hx
      rcases List.mem_or_eq_of_mem_set hx with hx | hx
      · exact ih (by omega) x hx
      · rw [hx]
        have hlt : k < o.length := by omega
        have hm := ho _ (List.getElem_mem hlt)
        have hp := prefS_lt o o.length k ho (by omega)
        rw [List.getD_eq_getElem?_getD, List.getElem?_eq_getElem hlt, Option.getD_some]
        refine gainL_bd l _ _ (by omega) ?_ hlb
        rw [hl]
        exact setBit_lt _ _ _ hp (by omega)
  exact h o.length (Nat.le_refl _)
theorem getD_bd (l : List Int) (h : ∀ x ∈ l, -2000 ≤ x ∧ x ≤ 2000) (e : Nat) : -2000 ≤ l.getD e 0 ∧ l.getD e 0 ≤ 2000 := by
  rw [List.getD_eq_getElem?_getD]
  by_cases he : e < l.length
  · rw [List.getElem?_eq_getElem he]; exact h _ (List.getElem_mem he)
  · rw [List.getElem?_eq_none (by omega)]; decide
theorem tot_bd (l : List Int) (os : List (List Int)) (n : Nat) (hl : l.length = 2 ^ n) (hlb : ∀ k, (hk : k < l.length) → -1000 ≤ l[k] ∧ l[k] ≤ 1000) (hos : ∀ o ∈ os, o.length = n ∧ ∀ x ∈ o, 0 ≤ x ∧ x < n) (e j : Nat) (hj : j ≤ os.length) :
    -2000 * (j : Int) ≤ tot l os e j ∧ tot l os e j ≤ 2000 * (j : Int) := by
  induction j with
  | zero => simp [tot]
  | succ j ih =>
    have h1 := ih (by omega)
    have ho := hos _ (List.getElem_mem (show j < os.length by omega))
    have hb := getD_bd _ (cornerL_bd l os[j] (by rw [ho.1]; exact hl) hlb (by rw [ho.1]; exact ho.2)) e
    rw [tot, show os.getD j [] = os[j] by rw [List.getD_eq_getElem?_getD, List.getElem?_eq_getElem (show j < os.length by omega)]; rfl]
    omega

set_option maxHeartbeats 2000000 in
set_option maxRecDepth 100000 in
theorem shapI_c (w : World) (n : Int) (v : Value) (l : List Int) (hv : Ints w v l) (_ : l.length ≤ 1048576) :
    Calls Tryd.prog 62 #[.agg #[.int .i64 n, v]] w fun e w' => ∃ ad i cp, e = .returned (.slice ad i cp) ∧ OwnI 3 w.heap.size w' (.slice ad i cp) (shapOf n l) ∧ Below w.heap.size w w' := by
  obtain ⟨a, c, rfl⟩ := hv.shape
  go_enter Tryd.func62, Tryd.ntmps62
  go_wp2_with fail
  refine (isFunI_any n l _ _ (hv.alloc _)).mono ?_
  rintro e w1 ⟨rfl, hb1⟩
  have X1 := (Box2.new w n (.slice a l.length c) 31).after hb1
  clear hb1
  cases hf : isFunB n l with
  | false =>
    have hx : shapOf n l = [] := by unfold shapOf; rw [hf]; rfl
    have HX := Lib.hid hx
    obtain ⟨d0, d1, B1, z1⟩ := X1
    clear hx
    go_wp2
    go_ret
    exact ⟨none, 0, 0, rfl, by rw [HX.out]; exact OwnI.nil _ _ _, B1⟩
  | true =>
    obtain ⟨h0, h5, hl, hlb⟩ := funOk hf
    obtain ⟨N, rfl⟩ := Int.eq_ofNat_of_zero_le h0
    have hN : N ≤ 5 := by omega
    have hlN : l.length = 2 ^ N := by
      have : ((l.length : Nat) : Int) = ((2 ^ N : Nat) : Int) := by push_cast; exact hl
      exact_mod_cast this
    have hx : shapOf N l = rowT l (ordersN N N) N (ordersN N N).length := by unfold shapOf; rw [if_pos hf, shap_same N hN]; rfl
    have hol := ordersN_len N hN N
    have h55 : (5 : Nat) ^ N ≤ 5 ^ 5 := Nat.pow_le_pow_right (by decide) hN
    have hmem := ordersN_mem N N
    have hoo := fun W => ordersOf_any N hN W
    obtain ⟨os, hos⟩ : ∃ os, os = ordersN N N := ⟨_, rfl⟩
    rw [← hos] at hx hol hmem hoo
    have hol2 : os.length ≤ 3125 := by omega
    have HX := Lib.hid hx
    have HMEM := Lib.hid hmem
    have HOO := Lib.hid hoo
    have HLB := Lib.hid hlb
    have HLN := Lib.hid hlN
    have hz1 := X1.z
    clear hx hol h55 hmem hoo hos hl hlb hlN hf
    obtain ⟨d0, d1, B1, z1⟩ := X1
    go_wp2_with (at_make; refine wpList_makeI rfl _ _ _ rfl 3 Tryd.underlying22 intElem N _ _ rfl rfl rfl rfl (by omega) ?_; intro w2 hown hg; have X2 := (Box2.mk d0 d1 B1 z1).grow hg (by simp); have hgs := hg.size; have rO := hown.lt; clear hg d0 d1; obtain ⟨d0, d1, B2, z2⟩ := X2)
    refine (HOO.out _).mono ?_
    rintro e w3 ⟨p3, i3, q3, rfl, oL, hb3⟩
    have X3 := (Box2.mk d0 d1 B2 z2).after hb3
    have hown3 := hown.keep hb3
    obtain ⟨p3', q3', e3, _⟩ := oL.len
    simp only [Value.slice.injEq] at e3
    obtain ⟨rfl, rfl, rfl⟩ := e3
    have z3 := hb3.size
    have hw12 : w1.heap.size < w2.heap.size := (rO _ rfl).2
    clear d0 d1 hown hb3 B2 z2
    go_wp2_with fail
    go_loopw [18] (fun i wr => ∃ j : Nat, j ≤ os.length ∧ i = .int .i64 j ∧ OwnI 3 w1.heap.size wr (.slice (some ⟨w1.heap.size, 0, none⟩) N N) (rowT l os N j) ∧ OwnLL 3 22 w2.heap.size wr (.slice p3 os.length q3) os ∧ Box2 w wr N (.slice a l.length c) ∧ w2.heap.size ≤ wr.heap.size)
      (fun i _ => os.length - (intOf i).toNat)
    case atStart => exact ⟨0, Nat.zero_le _, rfl, by rw [rowT_zero]; exact hown3, oL, X3, z3⟩
    case round =>
      obtain ⟨j, hj, rfl, ow, oL, X, zr⟩ := hrel
      obtain ⟨wo, rfl⟩ : ∃ wo : World, wo = wr := ⟨_, rfl⟩
      clear X3 hown3
      by_cases hlt : j < os.length
      · obtain ⟨g, u, hix, hcell, hu⟩ := oL.view Tryd.prog 79 Tryd.underlying79 sliceElem j hlt
        have hmo := HMEM.out _ (List.getElem_mem hlt)
        have hgd : os.getD j [] = os[j] := by rw [List.getD_eq_getElem?_getD, List.getElem?_eq_getElem hlt]; rfl
        obtain ⟨o, ho⟩ : ∃ o, o = os[j] := ⟨_, rfl⟩
        rw [← ho] at hu hmo hgd
        obtain ⟨au, nu, cu, rfl⟩ := hu.shape3
        have hcl : (cornerL l o).length = N := by unfold cornerL; rw [cornerTo_len]; exact hmo.1
        have hcb := cornerL_bd l o (by rw [hmo.1]; exact HLN.out) HLB.out (by rw [hmo.1]; exact hmo.2)
        have hca : ∀ (W : World), Ints W (.slice a l.length c) l → Ints W (.slice au nu cu) o → Calls Tryd.prog 130 #[.agg #[.int .i64 (N : Int), .slice a l.length c], .slice au nu cu] W fun e w' => ∃ ad i c, e = .returned (.slice ad i c) ∧ OwnI 3 W.heap.size w' (.slice ad i c) (cornerL l o) ∧ Below W.heap.size W w' :=
          fun W h1 h2 => corner_any N l o _ _ W h1 h2 (by rw [hmo.1]; exact hN) (by rw [hmo.1]; exact HLN.out) HLB.out (by rw [hmo.1]; exact hmo.2)
        have htb := fun e j' (h : j' ≤ os.length) => tot_bd l os N HLN.out HLB.out HMEM.out e j' h
        have hts : ∀ e, tot l os e (j + 1) = tot l os e j + (cornerL l o).getD e 0 := fun e => by rw [tot, hgd]
        obtain ⟨C, hC⟩ : ∃ C, C = cornerL l o := ⟨_, rfl⟩
        rw [← hC] at hcl hcb hca hts
        have HCB := Lib.hid hcb
        have HCA := Lib.hid hca
        have HTB := Lib.hid htb
        have HTS := Lib.hid hts
        have HW := Lib.hid ow
        have HOL := Lib.hid oL
        obtain ⟨d0, d1, B3, z3'⟩ := X
        have hvo := hv.below B3 (Nat.le_refl _)
        clear hC hcb hca htb hts ho hmo hgd ow oL
        go_wp2_with fail
        refine (HCA.out _ hvo hu.ints).mono ?_
        rintro e w4 ⟨p4, i4, q4, rfl, oC, hb4⟩
        obtain ⟨p4', q4', e4⟩ := oC.shape
        simp only [Value.slice.injEq] at e4
        obtain ⟨rfl, rfl, rfl⟩ := e4
        rw [hcl] at oC ⊢
        have X4 := (Box2.mk d0 d1 B3 z3').after hb4
        have ow4 := HW.out.keep hb4
        have oL4 := HOL.out.keep hb4
        have z4 := hb4.size
        have rC := oC.lt
        clear d0 d1 hix hcell hu hb4
        go_wp2_with fail
        go_loopw [26] (fun i wr => ∃ e : Nat, e ≤ N ∧ i = .int .i64 e ∧ OwnI 3 w1.heap.size wr (.slice (some ⟨w1.heap.size, 0, none⟩) N N) ((rowT l os N (j + 1)).take e ++ (rowT l os N j).drop e) ∧ OwnI 3 wo.heap.size wr (.slice p4 N q4) C ∧
            OwnLL 3 22 w2.heap.size wr (.slice p3 os.length q3) os ∧ Box2 w wr N (.slice a l.length c) ∧ w2.heap.size ≤ wr.heap.size)
          (fun i _ => N - (intOf i).toNat)
        case atStart => exact ⟨0, Nat.zero_le _, rfl, by simpa using ow4, oC, oL4, X4, by omega⟩
        case round =>
          obtain ⟨e, he, rfl, ow, oC, oL, X, zi⟩ := hrel
          obtain ⟨wi, rfl⟩ : ∃ wi : World, wi = wr := ⟨_, rfl⟩
          clear ow4 oL4 X4
          obtain ⟨d0, d1, B4, z4'⟩ := X
          by_cases hen : e < N
          · have hla : (rowT l os N (j + 1)).length = N := rowT_len _ _ _ _
            have hlb2 : (rowT l os N j).length = N := rowT_len _ _ _ _
            have hml := mix_len (rowT l os N (j + 1)) (rowT l os N j) e (by omega) (by omega)
            have hc1 := ow.cellAt (by rw [hml, hla]) e (by rw [hml, hla]; exact hen)
            rw [mix_get _ _ _ (by omega) (by omega), rowT_get] at hc1
            have hfr := ow.frozenAt (by rw [hml, hla]) e
            obtain ⟨aC, bC, offC, cC, eC, hlenC, hixC, hcC, hbC⟩ := oC.ints.view Tryd.prog 22 3 Tryd.underlying22 intElem
            simp only [Value.slice.injEq] at eC
            obtain ⟨rfl, eN, rfl⟩ := eC
            rw [hcl] at hixC
            have hc2 := hcC e (by omega)
            have hgC : C[e] = C.getD e 0 := by rw [List.getD_eq_getElem?_getD, List.getElem?_eq_getElem (show e < C.length by omega)]; rfl
            rw [hgC] at hc2
            have hb2 := getD_bd C HCB.out e
            have hb3 := HTB.out e j hj
            have hts := HTS.out e
            obtain ⟨x, hx⟩ : ∃ x, x = tot l os e j := ⟨_, rfl⟩
            obtain ⟨y, hy⟩ : ∃ y, y = C.getD e 0 := ⟨_, rfl⟩
            rw [← hx] at hc1 hb3 hts
            rw [← hy] at hc2 hb2 hts
            have hst := ow.stored (by rw [hml, hla]) e (x + y) ⟨by omega, by omega⟩
            have hms := mix_step (rowT l os N (j + 1)) (rowT l os N j) e (by omega) (by omega)
            rw [rowT_get, hts] at hms
            rw [hms] at hst
            have HST := Lib.hid hst
            have HCC := Lib.hid oC
            have HLL := Lib.hid oL
            have hixe := hixC
            have he0 : (0 : Int) ≤ (e : Int) := Int.natCast_nonneg _
            have heo1 : (e : Int) < (N : Int) := by omega
            have HCL := Lib.hid hcl
            clear eN hcl hla hlb2 hml ow hx hy hts hms hst oC oL hgC hcC hixC
            go_wp2
            go_roundw
            case rel => exact ⟨e + 1, by omega, by go_num, HST.out.1, HCC.out.grow HST.out.2 (fun q hq hq2 => by cases hq; have := (rC _ hq2).1; have := hw12; omega), HLL.out.growLow HST.out.2 hw12, (Box2.mk d0 d1 B4 z4').grow HST.out.2 (by simp; omega), by have := HST.out.2.size; omega⟩
            case measure => simp [intOf]; omega
          · have hee : e = N := by omega
            subst hee
            have hrr : (rowT l os e (j + 1)).take e ++ (rowT l os e j).drop e = rowT l os e (j + 1) := by
              rw [List.take_of_length_le (by rw [rowT_len]; exact Nat.le_refl _), List.drop_eq_nil_of_le (by rw [rowT_len]; exact Nat.le_refl _), List.append_nil]
            rw [hrr] at ow
            go_wp2
            go_roundw
            case rel => exact ⟨j + 1, by omega, by go_num, ow, oL, ⟨d0, d1, B4, z4'⟩, zi⟩
            case measure => simp [intOf]; omega
      · have hjj : os.length = j := by omega
        obtain ⟨d0, d1, B3, z3'⟩ := X
        rw [← hjj] at ow
        have HW := Lib.hid ow
        clear ow hjj
        go_wp2
        go_ret
        exact ⟨_, _, _, rfl, by rw [HX.out]; exact HW.out.mono B1.size, B3⟩
end Go.Proofs.YtpaoiiiceekkkaaDoor
end
