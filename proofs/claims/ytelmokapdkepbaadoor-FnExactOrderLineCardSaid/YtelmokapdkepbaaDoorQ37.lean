/- Levels of families: the second program. Longest chains of families: the second program. Packings: the second program. -/
import Derived.Test.YtelmokapdkepbaaDoorQ36
import Derived.Deep.RegionHeld3
section
namespace Go.Proofs.YtelmokapdkepbaaDoor
open Go.RowKit Go.G5

set_option maxHeartbeats 2000000 in
set_option maxRecDepth 100000 in
theorem levS_c (w : World) (g : Int) (v : Value) (l : List Int) (hv : Ints w v l) :
    Calls Tryd.prog 12 #[.agg #[.int .i64 g, v]] w fun e w' => ∃ ad cp, e = .returned (.tuple #[.slice ad (levels g l).length cp, .bool (isFamB g l)]) ∧ OwnLL 3 22 w.heap.size w' (.slice ad (levels g l).length cp) (levels g l) ∧ Below w.heap.size w w' := by
  have hv0 := hv
  obtain ⟨a, c, rfl⟩ := hv.shape
  obtain ⟨T, hT⟩ : ∃ T, T = levels g l := ⟨_, rfl⟩
  rw [← hT]
  have HT0 := Lib.hid hT
  clear hT
  go_enter Tryd.func12, Tryd.ntmps12
  go_wp2_with fail
  refine calls_named ?_
  intro V hV
  have B : Below w.heap.size w V := by rw [hV]; exact bl2 _ _ _
  have K : Blk V w.heap.size 27 #[.int .i64 g, .slice a l.length c] := by rw [hV]; exact (Blk.new _ _ _).alloc _
  have o0 : OwnLL 3 22 w.heap.size V (.slice (some ⟨w.heap.size + 1, 0, none⟩) 0 0) [] := by
    rw [hV]
    have := OwnLL.lit0 (EI := 3) (EO := 22) (B := w.heap.size) (w.alloc (.cells #[.int .i64 g, .slice a l.length c] 27)) (by simp)
    simpa using this
  clear hV
  refine (isFamS_any g l _ V (hv.below B (Nat.le_refl _))).mono ?_
  rintro e w1 ⟨rfl, b1⟩
  have o0 := o0.keep b1
  have K := K.keep b1
  have B := B.after b1 B.size
  have G := K.cell
  have z := K.lt
  cases hf : isFamB g l with
  | false =>
    have hx : T = [] := by rw [HT0.out]; unfold levels; rw [hf]; rfl
    subst hx
    have HF := Lib.hid hf
    clear hf
    go_wp2
    go_ret2
    exact ⟨_, _, by rw [HF.out]; rfl, o0, B⟩
  | true =>
    have hx : T = levL l := by rw [HT0.out]; unfold levels; rw [hf]; rfl
    have h1 := famOk hf
    have h64 : ∀ s ∈ l, 0 ≤ s ∧ s < 64 := fun s hs => by obtain ⟨k, hk, rfl⟩ := List.getElem_of_mem hs; exact (famOk64 hf).2.2 k hk
    have hln := fam64 hf
    have hasc := h1.2.2.2
    have hstart : T = [] ++ levF l.length l := hx
    have hTl : T.length ≤ 64 := by rw [hx]; exact Nat.le_trans (levF_len _ _) hln
    have HF := Lib.hid hf
    have HST := Lib.hid hstart
    have HASC := Lib.hid hasc
    have H64 := Lib.hid h64
    have hvw := hv0.below B (Nat.le_refl _)
    clear hx h1 hf hstart hasc h64
    have oz := OwnI.lit0 (E := 3) (B := w.heap.size) w1 B.size
    go_wp2_with (at_builtin; refine wpList_appendN rfl _ _ _ rfl 3 Tryd.underlying22 intElem w.heap.size _ [] rfl oz _ l rfl (hvw.alloc _) (by simp; omega) (by first | omega | (simp; done) | (simp; omega)) ?_; intro v2 w2 o2 g2 n2)
    have b2 : Below w.heap.size w w2 := (B.alloc B.size (.cells #[] 3)).grown g2 (by first | omega | (simp; done) | (simp; omega)) (fun q hq => (oz.lt q hq).1)
    have bz : Below w1.heap.size w1 w2 := (bl1 w1 (.cells #[] 3)).grown g2 (by simp) (fun q hq => by have hq2 : w1.heap.size = q := Option.some.inj hq; omega)
    have o2l := o0.keep bz
    rw [List.nil_append] at o2
    obtain ⟨ra0, rc0, rfl⟩ := o2.ints.shape
    clear o0 g2 n2
    go_wp2_with fail
    go_loopw [4, 5] (fun ov rv wr => ∃ (done : List (List Int)) (k : Nat) (rest : List Int) (oa : Option Addr) (oc : Nat) (ra : Option Addr) (rc : Nat), T = done ++ levF k rest ∧ rest.length ≤ k ∧ k ≤ 64 ∧ (rest.Pairwise (· < ·) ∧ ∀ s ∈ rest, 0 ≤ s ∧ s < 64) ∧ ov = .slice oa done.length oc ∧ rv = .slice ra rest.length rc ∧ Ints wr (.slice ra rest.length rc) rest ∧ OwnLL 3 22 w.heap.size wr (.slice oa done.length oc) done ∧ Below w.heap.size w wr) (fun _ rv _ => lenOf rv)
    case atStart => exact ⟨[], l.length, l, _, _, _, _, HST.out, Nat.le_refl _, hln, ⟨HASC.out, H64.out⟩, rfl, rfl, o2.ints, o2l, b2⟩
    case round =>
      obtain ⟨done, k, rest, oa, oc, ra, rc, hT, hrk, hk64, ⟨ha, hm⟩, rfl, rfl, hr, ho, Bo⟩ := hrel
      obtain ⟨wo, rfl⟩ : ∃ z : World, z = wr := ⟨_, rfl⟩
      clear o2l
      by_cases hpos : 0 < rest.length
      · have hne : rest ≠ [] := fun e => by rw [e] at hpos; simp at hpos
        have hpos2 : (0 : Int) < (rest.length : Int) := by omega
        have hlt := remL_lt hne ha hm
        obtain ⟨k', rfl⟩ : ∃ k', k = k' + 1 := ⟨k - 1, by omega⟩
        have hT2 : T = (done ++ [minL rest]) ++ levF k' (remLv rest) := by rw [hT, levF_succ _ _ hne, List.append_assoc]; rfl
        have ha2 := remL_asc ha
        have hm2 : ∀ s ∈ remLv rest, 0 ≤ s ∧ s < 64 := fun s hs => hm s (remL_mem hs)
        have hdl : done.length ≤ 64 := by have := congrArg List.length hT; rw [List.length_append] at this; omega
        have hmc := l15Minimal_any rest _ wo hr hm (by omega)
        rw [minTo_all rest ha (fun x hx => (hm x hx).1)] at hmc
        have hrl : remLv rest = (rest.take rest.length).filter (fun s => !has (minL rest) s) := by rw [List.take_length]; rfl
        obtain ⟨M, hM⟩ : ∃ M, M = minL rest := ⟨_, rfl⟩
        obtain ⟨R, hR⟩ : ∃ R, R = remLv rest := ⟨_, rfl⟩
        rw [← hM] at hmc hT2 hrl
        rw [← hR] at hlt hT2 ha2 hm2 hrl
        have HT2 := Lib.hid hT2
        have HRL := Lib.hid hrl
        have HMM := Lib.hid (And.intro ha2 hm2)
        have HMC := Lib.hid hmc
        have HO := Lib.hid ho
        have HR := Lib.hid hr
        have HMR := Lib.hid hm
        clear hT hT2 hrl ha2 hm2 hmc ho hM hR ha hm hne
        go_wp2_with fail
        refine HMC.out.mono ?_
        rintro e w2 ⟨p2, i2, q2, rfl, o2, b2⟩
        have hi2 : i2 = M.length := o2.ints.capLe.1
        subst hi2
        have hr2 := HR.out.keep b2
        obtain ⟨_, rb, roff, _, hve, _, hix, hc, hb⟩ := hr2.view Tryd.prog 22 3 Tryd.underlying22 intElem
        injection hve with x1 _ x3
        subst x1 x3
        have HC := Lib.hid hc
        have HIX := Lib.hid hix
        have HO2 := Lib.hid o2
        have ol0 := OwnI.lit0 (E := 3) (B := w2.heap.size) w2 (Nat.le_refl _)
        clear hc hix o2
        go_wp2_with fail
        go_loopw [7, 8] (fun lv i wr => ∃ (j : Nat) (ad : Option Addr) (nn cp : Nat), j ≤ rest.length ∧ i = .int .i64 j ∧ lv = .slice ad nn cp ∧ OwnI 3 w2.heap.size wr (.slice ad nn cp) ((rest.take j).filter (fun s => !has M s)) ∧ Below w2.heap.size w2 wr) (fun _ i _ => rest.length - (intOf i).toNat)
        case atStart => exact ⟨0, _, _, _, Nat.zero_le _, rfl, rfl, ol0, bl1 _ _⟩
        case round =>
          obtain ⟨j, ad, nn, cp, hj, rfl, rfl, hw, Bi⟩ := hrel
          obtain ⟨wi, rfl⟩ : ∃ z : World, z = wr := ⟨_, rfl⟩
          have HW := Lib.hid hw
          have zi := Bi.size
          clear hw ol0
          by_cases hjl : j < rest.length
          · have hjl2 : (j : Int) < (rest.length : Int) := by omega
            have ck := cells_below HC.out hb Bi (Nat.le_refl _) j hjl
            have ik := fun W => HIX.out W j hjl
            have hst := rest_take (fun s => !has M s) rest j hjl
            have hxm := HMR.out rest[j] (List.getElem_mem hjl)
            have hlw : ((rest.take j).filter (fun s => !has M s)).length ≤ 64 := by
              have h1 := List.length_filter_le (fun s => !has M s) (rest.take j)
              have h2 := List.length_take_le j rest
              omega
            obtain ⟨x, hx⟩ : ∃ x, x = rest[j] := ⟨_, rfl⟩
            rw [← hx] at ck hst hxm
            have hct := l10Has_any M _ x wi (HO2.out.ints.keep Bi)
            obtain ⟨q, hq⟩ : ∃ q, q = has M x := ⟨_, rfl⟩
            rw [← hq] at hct
            have hst2 : (rest.take (j + 1)).filter (fun s => !has M s) = (rest.take j).filter (fun s => !has M s) ++ (if !q then [x] else []) := by rw [hst, hq]
            have HCT := Lib.hid hct
            clear hst hct hx hq
            cases q with
            | true =>
              rw [if_neg (by simp), List.append_nil] at hst2
              have HS2 := Lib.hid hst2
              clear hst2
              go_wp2_with (go_at_call 39; refine HCT.out.mono ?_; rintro e w' ⟨rfl, rfl⟩)
              go_roundw
              case rel => exact ⟨j + 1, ad, nn, cp, by omega, by go_num, rfl, by rw [HS2.out]; exact HW.out, Bi⟩
              case measure => simp [intOf]; omega
            | false =>
              rw [if_pos (by simp)] at hst2
              have HS2 := Lib.hid hst2
              clear hst2
              go_wp2_with (first
                | (go_at_call 39; refine HCT.out.mono ?_; rintro e w' ⟨rfl, rfl⟩)
                | (at_builtin; refine wpList_appendI rfl _ _ _ rfl 3 Tryd.underlying22 intElem w2.heap.size _ _ x wi.heap.size rfl rfl (cell_new wi #[.int .i64 x] 3 0 _ rfl) (HW.out.alloc _) ⟨by omega, by omega⟩ (by omega) (by first | omega | (simp; done) | (simp; omega)) ?_; intro v' w6 hown hgr; obtain ⟨av, nv, cv, rfl⟩ := hown.shape3))
              have B6 : Below w2.heap.size w2 w6 := (Bi.alloc Bi.size (.cells #[.int .i64 x] 3)).grown hgr (by simp; omega) (fun q hq => (HW.out.lt q hq).1)
              go_roundw
              case rel => exact ⟨j + 1, av, nv, cv, by omega, by go_num, rfl, by rw [HS2.out]; exact hown, B6⟩
              case measure => simp [intOf]; omega
          · have hjl2 : ¬ (j : Int) < (rest.length : Int) := by omega
            have hje : j = rest.length := by omega
            subst hje
            have hw := HW.out
            rw [← HRL.out] at hw
            have hnn : nn = R.length := hw.ints.capLe.1
            subst hnn
            have HWW := Lib.hid hw
            have b2i := b2.after Bi b2.size
            have Bw := Bo.after b2i Bo.size
            have HOL := Lib.hid (HO.out.keep b2i)
            have HMO := Lib.hid ((HO2.out.keep Bi).mono Bo.size)
            clear hw
            go_wp2_with (at_builtin; refine wpList_appendL rfl _ _ _ rfl 3 22 noMeet Tryd.underlying35 sliceElem w.heap.size _ done (.slice p2 M.length q2) M wi.heap.size rfl rfl (cell_new wi #[.slice p2 M.length q2] 22 0 _ rfl) ((HOL.out).alloc _) (HMO.out.alloc _) (by omega) (by have := Bw.size; simp; omega) ?_; intro v7 w7 o7 g7)
            have rO := HOL.out.lt
            obtain ⟨vs7, row7⟩ := (HOL.out.alloc (.cells #[.slice p2 M.length q2] 22)).row
            have hw7 := (HWW.out.alloc (.cells #[.slice p2 M.length q2] 22)).growL row7 noMeet g7
            have B7 : Below w.heap.size w w7 := (Bw.alloc Bw.size (.cells #[.slice p2 M.length q2] 22)).grown g7 (by have := Bw.size; simp; omega) (fun q hq => (rO q hq).1)
            obtain ⟨oa7, oc7, rfl, _⟩ := o7.len
            have hl7 : (done ++ [M]).length = done.length + 1 := by simp
            go_wp2_with fail
            go_roundw
            case rel => exact ⟨done ++ [M], k', R, oa7, oc7, ad, cp, HT2.out, by omega, by omega, HMM.out, rfl, rfl, hw7.ints, o7, B7⟩
            case measure => simp [lenOf]; omega
      · have hne : rest = [] := by cases rest with
          | nil => rfl
          | cons x r => simp at hpos
        subst hne
        have hpos2 : ¬ (0 : Int) < (0 : Int) := by omega
        rw [levF_nil, List.append_nil] at hT
        subst hT
        go_wp2
        go_ret2
        exact ⟨_, _, by rw [HF.out]; rfl, ho, Bo⟩
end Go.Proofs.YtelmokapdkepbaaDoor
end
section
namespace Go.Proofs.YtelmokapdkepbaaDoor
open Go.RowKit Go.G5

theorem OwnI.litC {E : TypeId} {B : Nat} (w : World) (y : Int) (hy : InR y) (hB : B ≤ w.heap.size) : OwnI E B (w.alloc (.cells #[.int .i64 y] E)) (.slice (some ⟨w.heap.size, 0, none⟩) 1 1) [y] :=
  ⟨World.ownsRow_lit w #[.int .i64 y] 1 hB (by decide) rfl, by intro z hz; rw [List.mem_singleton] at hz; subst hz; exact hy⟩
theorem fitC_and (x y : Int) (r : List Int) (h0 : 0 ≤ x) : fitC (y :: r) x = (iand x y == x) := by
  show (idif x y == 0) = _
  rw [← idif_sub h0, Bool.eq_iff_iff, beq_iff_eq, beq_iff_eq]
  constructor <;> intro h <;> omega

set_option maxHeartbeats 2000000 in
set_option maxRecDepth 100000 in
theorem chainS_c (w : World) (g : Int) (v : Value) (l : List Int) (hv : Ints w v l) :
    Calls Tryd.prog 11 #[.agg #[.int .i64 g, v]] w fun e w' => ∃ ad i cp, e = .returned (.tuple #[.slice ad i cp, .bool (isFamB g l)]) ∧ OwnI 3 w.heap.size w' (.slice ad i cp) (chL g l) ∧ Below w.heap.size w w' := by
  have hv0 := hv
  obtain ⟨a, c, rfl⟩ := hv.shape
  obtain ⟨T, hT⟩ : ∃ T, T = chL g l := ⟨_, rfl⟩
  have hlev := levels_len g l
  have hmem := levels_mem g l
  have hTe : T = chD (levels g l) (levels g l).length [] := hT
  have hlv := levS_c (w.alloc (.cells #[.int .i64 g, .slice a l.length c] 27)) g _ l (hv0.alloc _)
  rw [← hT]
  obtain ⟨ls, hls⟩ : ∃ ls, ls = levels g l := ⟨_, rfl⟩
  rw [← hls] at hlev hmem hTe hlv
  obtain ⟨bf, hbf⟩ : ∃ b, b = isFamB g l := ⟨_, rfl⟩
  rw [← hbf] at hlv ⊢
  have HTE := Lib.hid hTe
  have HM := Lib.hid hmem
  have HLV := Lib.hid hlv
  clear hT hTe hmem hlv hls hbf
  go_enter Tryd.func11, Tryd.ntmps11
  go_wp2_with fail
  refine HLV.out.mono ?_
  rintro e w2 ⟨ad, cp, rfl, hll, b2⟩
  have B2 : Below w.heap.size w w2 := (bl1 _ _).after b2 (by simp)
  have HLL := Lib.hid (hll.mono (show w.heap.size ≤ _ by simp))
  clear b2 hll
  have hwl : IntKind.i64.wrap ((ls.length : Int) - 1) = (ls.length : Int) - 1 := by rw [IntKind.wrap_i64]; omega
  have o0 := OwnI.lit0 (E := 3) (B := w2.heap.size) w2 (Nat.le_refl _)
  go_wp2_with fail
  go_loopw [6, 7] (fun ov iv wr => ∃ (i : Nat) (out : List Int) (p : Option Addr) (q : Nat), i ≤ ls.length ∧ iv = .int .i64 ((i : Int) - 1) ∧ ov = .slice p out.length q ∧ OwnI 3 w2.heap.size wr (.slice p out.length q) out ∧ out.length + i ≤ 64 ∧ chD ls i out = T ∧ (∀ x ∈ out, 0 ≤ x ∧ x < 64) ∧ Below w2.heap.size w2 wr) (fun _ iv _ => (intOf iv + 1).toNat)
  case atStart => exact ⟨ls.length, [], _, _, Nat.le_refl _, rfl, rfl, o0, by simpa using hlev, HTE.out.symm, by simp, bl1 _ _⟩
  case round =>
    obtain ⟨i, out, p, q, hi, rfl, rfl, ho, hol, hch, hom, Bw⟩ := hrel
    obtain ⟨wo, rfl⟩ : ∃ z : World, z = wr := ⟨_, rfl⟩
    clear o0
    cases i with
    | zero =>
      have hch2 : out = T := hch
      subst hch2
      have hneg : ¬ (0 : Int) ≤ ((0 : Nat) : Int) - 1 := by omega
      clear hch
      go_wp2
      go_ret2
      exact ⟨_, _, _, rfl, ho.mono B2.size, B2.after Bw B2.size⟩
    | succ i =>
      have hii : ((i + 1 : Nat) : Int) - 1 = (i : Int) := by omega
      rw [hii]
      have hlt : i < ls.length := by omega
      have hwd : IntKind.i64.wrap ((i : Int) - 1) = (i : Int) - 1 := by rw [IntKind.wrap_i64]; omega
      have hch2 := chD_at ls i hlt out
      rw [hch] at hch2
      obtain ⟨gg, u, hix, hcu, hou⟩ := (HLL.out.keep Bw).view Tryd.prog 35 Tryd.underlying35 sliceElem i hlt
      have hM := HM.out ls[i] (List.getElem_mem hlt)
      obtain ⟨M, hMe⟩ : ∃ M, M = ls[i] := ⟨_, rfl⟩
      rw [← hMe] at hch2 hou hM
      obtain ⟨am, cm, rfl⟩ := hou.shape
      obtain ⟨_, mb, moff, _, hve, _, hmix, hmc, hmb⟩ := hou.ints.view Tryd.prog 22 3 Tryd.underlying22 intElem
      injection hve with x1 _ x3
      subst x1 x3
      have HMC := Lib.hid hmc
      have HMX := Lib.hid hmix
      have HMM := Lib.hid hM.2
      have HCH := Lib.hid hch2
      have HO := Lib.hid ho
      have HOM := Lib.hid hom
      clear hmc hmix hM hch hch2 ho hom hMe hou
      go_wp2_with fail
      go_loopw [6, 8] (fun ov iv wi => ∃ (j n : Nat), j ≤ M.length ∧ ov = .slice p out.length q ∧ iv = .int .i64 j ∧ stepC (M.drop j) out = stepC M out ∧ wi = wo.drewN n) (fun _ iv _ => M.length - (intOf iv).toNat)
      case atStart => exact ⟨0, 0, Nat.zero_le _, rfl, rfl, rfl, rfl⟩
      case round =>
        obtain ⟨j, n, hj, rfl, rfl, hst, rfl⟩ := hrel
        by_cases hjl : j < M.length
        · have hjl2 : (j : Int) < (M.length : Int) := by omega
          have ck := HMC.out j hjl
          have ik := fun W => HMX.out W j hjl
          have hxm := HMM.out M[j] (List.getElem_mem hjl)
          have hat := stepC_at M j hjl out
          rw [hst] at hat
          obtain ⟨x, hx⟩ : ∃ x, x = M[j] := ⟨_, rfl⟩
          rw [← hx] at ck hxm hat
          clear hx hst
          have hyes : fitC out x = true → chD ls i (x :: out) = T := fun h => by rw [HCH.out, hat, h]; rfl
          have hno : fitC out x = false → stepC (M.drop (j + 1)) out = stepC M out := fun h => by rw [hat, h]; rfl
          have HY := Lib.hid hyes
          have HN := Lib.hid hno
          have hxo : ∀ y ∈ x :: out, 0 ≤ y ∧ y < 64 := fun y hy => by
            rcases List.mem_cons.1 hy with e | h
            · rw [e]; exact hxm
            · exact HOM.out y h
          have HXO := Lib.hid hxo
          have hxr : InR x := ⟨by omega, by omega⟩
          have HXR := Lib.hid hxr
          have hL : [x].length + out.length ≤ 17592186044416 := by simp; omega
          have HL := Lib.hid hL
          have zo := Bw.size
          clear hat hyes hno hxo hxr hL
          cases out with
          | nil =>
            go_wp2_with fail
            go_quiet (fail)
            go_wp2_with (at_builtin; refine wpList_appendN rfl _ _ _ rfl 3 Tryd.underlying22 intElem w2.heap.size _ [x] rfl (OwnI.litC _ x HXR.out (by have := Bw.size; simp; omega)) _ _ rfl ((HO.out.ints.drewN _).alloc _) HL.out (by have := Bw.size; simp; omega) ?_; intro v' w6 hown hgr _; obtain ⟨av, nv, cv, rfl⟩ := hown.shape3)
            have B6 : Below w2.heap.size w2 w6 := ((Bw.drewN' _).alloc (Bw.drewN' _).size (.cells #[.int .i64 x] 3)).grown hgr (by have := Bw.size; simp; omega) (fun q hq => by have e := Option.some.inj hq; have := Bw.size; simp at e; omega)
            have hnv : nv = 1 := by have := hown.ints.capLe.1; simpa using this
            subst hnv
            go_roundw
            case rel => exact ⟨i, [x], av, cv, by omega, by go_num, rfl, hown, by simp; omega, HY.out rfl, HXO.out, B6⟩
            case measure => simp [intOf]
          | cons y r =>
            have hyb := HOM.out y (by simp)
            obtain ⟨_, ob, ooff, _, hve, _, hoix, hoc, hob⟩ := HO.out.ints.view Tryd.prog 22 3 Tryd.underlying22 intElem
            injection hve with x1 _ x3
            subst x1 x3
            have oc := hoc 0 (by simp)
            have oi : ∀ w', (Instr.indexAt 22 (.slice p (r.length + 1) q) (.int .i64 0)).run Tryd.prog w' = .ok (.pointer (some ⟨ob, ooff, none⟩)) w' := fun w' => by have := hoix w' 0 (by simp); simpa using this
            rw [Nat.add_zero] at oc
            simp only [List.getElem_cons_zero] at oc
            have hyl : ((y :: r).length : Int) = (r.length : Int) + 1 := by simp
            have hne : ((r.length : Int) + 1 == 0) = false := by simp; omega
            have hif : bits .and .i64 x y = iand x y := iand_is hxm.1 (by omega) hyb.1 (by omega)
            have hfit := fitC_and x y r hxm.1
            obtain ⟨z, hz⟩ : ∃ z, z = iand x y := ⟨_, rfl⟩
            rw [← hz] at hif hfit
            clear hz hoc hoix
            cases h0 : z == x with
            | false =>
              have hN := HN.out (by rw [hfit, h0])
              have HNN := Lib.hid hN
              clear hN hfit
              go_wp2_with fail
              go_quiet (fail)
              go_wp2
              go_roundw
              case rel => exact ⟨j + 1, n + nq, by omega, rfl, by go_num, HNN.out, by simp⟩
              case measure => simp [intOf]; omega
            | true =>
              have hY := HY.out (by rw [hfit, h0])
              have HYY := Lib.hid hY
              clear hY hfit
              go_wp2_with fail
              go_quiet (fail)
              go_wp2_with (at_builtin; refine wpList_appendN rfl _ _ _ rfl 3 Tryd.underlying22 intElem w2.heap.size _ [x] rfl (OwnI.litC _ x HXR.out (by have := Bw.size; simp; omega)) _ _ rfl ((HO.out.ints.drewN _).alloc _) HL.out (by have := Bw.size; simp; omega) ?_; intro v' w6 hown hgr _; obtain ⟨av, nv, cv, rfl⟩ := hown.shape3)
              have B6 : Below w2.heap.size w2 w6 := ((Bw.drewN' _).alloc (Bw.drewN' _).size (.cells #[.int .i64 x] 3)).grown hgr (by have := Bw.size; simp; omega) (fun q hq => by have e := Option.some.inj hq; have := Bw.size; simp at e; omega)
              have hnv : nv = (x :: y :: r).length := by have := hown.ints.capLe.1; simpa using this
              subst hnv
              go_roundw
              case rel => exact ⟨i, x :: y :: r, av, cv, by omega, by go_num, rfl, hown, by simp at hol ⊢; omega, HYY.out, HXO.out, B6⟩
              case measure => simp [intOf]
        · have hjl2 : ¬ (j : Int) < (M.length : Int) := by omega
          have hje : j = M.length := by omega
          subst hje
          rw [stepC_end] at hst
          have hC : chD ls i out = T := by rw [HCH.out, ← hst]
          have HC := Lib.hid hC
          clear hC hst
          go_wp2
          go_roundw
          case rel => exact ⟨i, out, p, q, by omega, by go_num, rfl, HO.out.drewN _, by omega, HC.out, HOM.out, Bw.drewN' _⟩
          case measure => simp [intOf]
end Go.Proofs.YtelmokapdkepbaaDoor
end
section
namespace Go.Proofs.YtelmokapdkepbaaDoor
open Go.RowKit Go.G5

theorem okB_is (s u : Int) : okB s u = (!(iand s u != 0) && !(s == 0)) := by
  unfold okB
  cases h1 : iand s u == 0 <;> cases h2 : s == 0 <;> simp_all
theorem pack_at (l : List Int) (j : Nat) (h : j < l.length) (u : Int) (c b : List Int) : packS (l.drop j) u c b = if okB l[j] u then packS (l.drop (j + 1)) u c (longer b (packS (l.drop (j + 1)) (ior u l[j]) (c ++ [l[j]]) (c ++ [l[j]]))) else packS (l.drop (j + 1)) u c b := by
  rw [List.drop_eq_getElem_cons h, packS]

end Go.Proofs.YtelmokapdkepbaaDoor
end
