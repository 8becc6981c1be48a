/- Families that are read: the second program. Functions of masses. Functions of masses: the program's own. Masses of functions. Functions of masses: the reference's. Contracts of the library at this program, laid by the kit's commands. Functions that are read: what is computed. -/
import Derived.Test.YtipejodijbjpcaaGreatDoorQ18
import Derived.Deep.AppendLies
import Derived.Deep.RegionLaw
import Derived.Shelf.Abstract
import Derived.StillTailTactics
import Derived.Shelf.Strings.Builder1
import Derived.Shelf.Strings.Builder2
import Derived.Shelf.Strings.OnBuilder
import Derived.Shelf.Small.Bits
import Derived.Shelf.Strings.BuilderF
import Derived.Shelf.Strings.BuilderK
import Derived.Shelf.Utf8.RuneCount
import Derived.Shelf.Strconv.Itoa0
import Derived.Shelf.Strconv.Itoa1
import Derived.Shelf.LaysM
import Derived.Shelf.Strconv.Itoa2
import Derived.Shelf.Strconv.Itoa3
import Derived.Shelf.Strings.Search1
import Derived.Shelf.Strings.Search2
import Derived.Shelf.Strings.Search3
import Derived.Shelf.Strings.Count
import Derived.Shelf.Strings.Shaped
import Derived.Shelf.Sort.Plain
import Derived.Shelf.Strings.Prefix
import Derived.Shelf.Strings.Split
import Derived.Shelf.Strings.SplitShaped
import Derived.Shelf.Unicode.Decode
import Derived.Shelf.Strings.RuneCount
import Derived.Shelf.Strings.Explode
import Derived.Shelf.Unicode.DecodeSlow
import Derived.Shelf.Unicode.DecodeAny
import Derived.Shelf.Slices.Turned
import Derived.Shelf.Slices.Equal
import Derived.Ground.Names2Prog
import Derived.Shelf.Slices.Clone
import Derived.Shelf.Slices.CompactI
import Derived.Shelf.Slices.SearchI
import Derived.Shelf.Slices.Cells
import Derived.Shelf.Slices.In.SortNone
import Derived.Shelf.Slices.Empties
import Derived.Shelf.Slices.Empties2
import Derived.Ground.SlgnProg
import Derived.Shelf.SlicesE.Clone
import Derived.Test.YtipejodijbjpcaaGreatDoorProg
section
namespace Go.Proofs.YtipejodijbjpcaaGreatDoor
open Go.RowKit Go.G5

theorem pm_in {n : Int} {s : ByteArray} (h : (cutB 124 s).all (psB n) = true) : inB n 0 6 = true := by
  cases hn : inB n 0 6 with
  | true => rfl
  | false =>
    have hne := cutB_ne 124 s
    cases hc : cutB 124 s with
    | nil => exact absurd hc hne
    | cons x r =>
      rw [hc, List.all_cons, psB_out hn] at h
      cases h
theorem fam_nil (n : Int) : isFamB n [] = inB n 0 6 := by
  unfold isFamB areSetsB ascB
  simp
theorem pm_none2 (n : Int) : pmB n noneB = inB n 0 6 := by
  cases hn : inB n 0 6 with
  | true => exact (pm_none hn).1
  | false => exact pmB_out hn
theorem cutAt_j {c : UInt8} {s : ByteArray} {ps : List ByteArray} {j : Nat} {P : ByteArray} {k : Nat} (hst : CutAt c s ps j P k) : j ≤ ps.length := by
  refine Nat.le_of_not_lt fun hgt => ?_
  have h1 := hst.1
  rw [List.drop_eq_nil_of_le (by omega)] at h1
  exact cutA_ne _ _ _ (List.map_eq_nil_iff.1 h1.symm)
set_option maxHeartbeats 2000000 in
set_option maxRecDepth 100000 in
theorem pfamS_any (n : Int) (s : ByteArray) (w : World) (hs : s.size ≤ 2000000) :
    Calls Tryz.prog 29 #[.int .i64 n, .string s] w fun e w' => ∃ ad i c, e = .returned (.tuple #[.agg #[.int .i64 (pmN n s), .slice ad i c], .bool (pmB n s)]) ∧ OwnI 3 w.heap.size w' (.slice ad i c) (pmL n s) ∧ Below w.heap.size w w' := by
  obtain ⟨V, hV⟩ : ∃ V, V = (w.alloc (.cells #[.int .i64 0, .slice none 0 0] 27)).alloc (.cells #[.int .i64 n, .slice none 0 0] 27) := ⟨_, rfl⟩
  have K0V : Blk V w.heap.size 27 #[.int .i64 0, .slice none 0 0] := by rw [hV]; exact (Blk.new _ _ _).alloc _
  have K1V : Blk V (w.heap.size + 1) 27 #[.int .i64 n, .slice none 0 0] := by
    rw [hV]
    have := Blk.new (w.alloc (.cells #[.int .i64 0, .slice none 0 0] 27)) 27 #[.int .i64 n, .slice none 0 0]
    simpa using this
  have BV : Below w.heap.size w V := by rw [hV]; exact bl2 _ _ _
  have hzV : w.heap.size + 2 ≤ V.heap.size := by rw [hV]; simp
  have o0 := OwnI.nil 3 (w.heap.size + 2) V
  by_cases hd : s = noneB
  · subst hd
    have hte : (noneB.toList == [110, 111, 110, 101]) = true := by rw [show ([110, 111, 110, 101] : List UInt8) = noneB.toList by decide +kernel, str_eq]; simp
    have hfb : pmB n noneB = isFamB n [] := by rw [pm_none2, fam_nil]
    have hyy : pmB n noneB = true → pmN n noneB = n ∧ pmL n noneB = [] := fun h => (pm_none (by rw [← pm_none2]; exact h)).2
    have hpno := pm_no (n := n) (s := noneB)
    obtain ⟨s, hse⟩ : ∃ s, s = noneB := ⟨_, rfl⟩
    rw [← hse] at hte hfb hyy hpno ⊢
    clear hse hs
    go_enter Tryz.func29, Tryz.ntmps29
    go_upto_region 2 with fail
    rw [← hV]
    clear hV
    go_wp2_with fail
    go_loopw [7, 8] (fun _ iv wr => iv = .int .i64 0 ∧ wr = V) (fun _ _ _ => 0)
    case atStart => exact ⟨rfl, rfl⟩
    case round =>
      obtain ⟨rfl, rfl⟩ := hrel
      obtain ⟨l, hl⟩ : ∃ l : List Int, l = [] := ⟨_, rfl⟩
      obtain ⟨ad, c, K1w, ow⟩ : ∃ ad c, Blk wr (w.heap.size + 1) 27 #[.int .i64 n, .slice ad l.length c] ∧ OwnI 3 (w.heap.size + 2) wr (.slice ad l.length c) l := ⟨none, 0, by rw [hl]; exact K1V, by rw [hl]; exact o0⟩
      rw [← hl] at hfb hyy
      have Bw := BV
      have K0w := K0V
      clear hl K1V o0
      have G1 := K1w.cell
      have hfm := isFamS_any n l _ wr ow.ints
      rw [← hfb] at hfm
      have HYY := Lib.hid hyy
      have HPN := Lib.hid hpno
      have HFM := Lib.hid hfm
      have G1 := K1w.cell
      clear hfb hyy hpno hfm
      go_wp2_with fail
      refine HFM.out.mono ?_
      rintro e w2 ⟨rfl, b2⟩
      have K02 := K0w.keep b2
      have K12 := K1w.keep b2
      have o2 := ow.keep b2
      have B2 := Bw.after b2 Bw.size
      clear G1
      have G0 := K02.cell
      have F0 := K02.frozen
      have G1 := K12.cell
      cases hpb : pmB n s with
      | false =>
        have HPB := Lib.hid (HPN.out hpb)
        have HPB2 := Lib.hid hpb
        clear hpb
        go_wp2
        refine post_named ?_
        intro Wf hWf
        have t := box_tail (w := w) (E := 27) (m := 0) (b := .slice none 0 0) K02 (OwnI.nil 3 (w2.heap.size) w2) (Nat.le_refl _) K02.lt B2 hWf
        have GF := t.1.cell
        clear hWf G0 F0 G1
        exact bodyPost_ret (v := .tuple #[.agg #[.int .i64 0, .slice none 0 0], .bool false]) (by simp [results, Tryz.results29, go_sem, GF]) rfl ⟨none, 0, 0, by rw [HPB.out.1, HPB2.out], by rw [HPB.out.2]; exact t.2.1, t.2.2⟩
      | true =>
        have HPB := Lib.hid (HYY.out hpb)
        have HPB2 := Lib.hid hpb
        clear hpb
        go_wp2
        refine post_named ?_
        intro Wf hWf
        have t := box_tail (w := w) (E := 27) (m := n) (b := .slice ad l.length c) K02 o2 (Nat.le_refl _) (by omega) B2 hWf
        have GF := t.1.cell
        clear hWf G0 F0 G1
        exact bodyPost_ret (v := .tuple #[.agg #[.int .i64 n, .slice ad l.length c], .bool true]) (by simp [results, Tryz.results29, go_sem, GF]) rfl ⟨_, _, _, by rw [HPB.out.1, HPB2.out], by rw [HPB.out.2]; exact t.2.1, t.2.2⟩
  have hte : (s.toList == [110, 111, 110, 101]) = false := by rw [show ([110, 111, 110, 101] : List UInt8) = noneB.toList by decide +kernel, str_eq, decide_eq_false hd]
  have hbad := pm_bad (n := n) hd
  have hfin := fun h => pm_fin (n := n) (s := s) (pm_in h) hd h
  have hyes := pm_yes (n := n) hd
  have hlen := cutB_len 124 s
  have hpart := cutB_part 124 s
  have hca := cutAt_0 124 s
  obtain ⟨ps, hps⟩ : ∃ ps, ps = cutB 124 s := ⟨_, rfl⟩
  rw [← hps] at hbad hfin hyes hlen hpart hca
  have HBAD := Lib.hid hbad
  have HFIN := Lib.hid hfin
  have HYES := Lib.hid hyes
  have HPART := Lib.hid hpart
  have HCA := Lib.hid hca
  clear hbad hfin hyes hpart hca hps hd
  go_enter Tryz.func29, Tryz.ntmps29
  go_upto_region 2 with fail
  rw [← hV]
  clear hV
  go_wp2_with fail
  go_loopw [7, 8] (fun pv iv wr => ∃ (j k : Nat) (P : ByteArray) (ad : Option Addr) (i c : Nat), iv = .int .i64 k ∧ pv = .string P ∧ (ps.take j).all (psB n) = true ∧ (CutAt 124 s ps j P k ∨ (k = s.size + 1 ∧ j = ps.length)) ∧ Below w.heap.size w wr ∧ w.heap.size + 2 ≤ wr.heap.size ∧ Blk wr w.heap.size 27 #[.int .i64 0, .slice none 0 0] ∧ Blk wr (w.heap.size + 1) 27 #[.int .i64 n, .slice ad i c] ∧ OwnI 3 (w.heap.size + 2) wr (.slice ad i c) ((ps.take j).map (psV n))) (fun _ iv _ => s.size + 1 - (intOf iv).toNat)
  case atStart => exact ⟨0, 0, ByteArray.empty, none, 0, 0, rfl, rfl, rfl, .inl HCA.out, BV, hzV, K0V, K1V, o0⟩
  case round =>
    obtain ⟨j, k, P, ad, i, c, rfl, rfl, hall, hst, Bw, zw, K0w, K1w, ow⟩ := hrel
    have HALL := Lib.hid hall
    clear hall HCA BV K0V K1V o0 hzV
    rcases hst with hst | ⟨hk1, hj1⟩
    · have hks := hst.2.1
      have hPk := hst.2.2
      have hle : (k : Int) ≤ (s.size : Int) := by omega
      have hjl := cutAt_j hst
      by_cases hlt : k < s.size
      · have hlt2 : (k : Int) < (s.size : Int) := by omega
        by_cases hc : s[k] = 124
        · have hcb : ((s[k].toNat : Int) != 124) = false := byte_eq hc
          have hend := cutAt_end hst hlt hc
          have hend : j < ps.length ∧ ps.getD j ByteArray.empty = P ∧ (CutAt 124 s ps (j + 1) ByteArray.empty (k + 1) ∨ (k + 1 = s.size + 1 ∧ j + 1 = ps.length)) := ⟨hend.1, hend.2.1, .inl hend.2.2⟩
          clear hst hc hjl
          obtain ⟨hj2, hg, HNX⟩ := hend
          have hsz := HPART.out _ (List.getElem_mem hj2)
          have hgp : ps[j] = P := by rw [← getD_b ps j hj2]; exact hg
          rw [hgp] at hsz
          have htk : (ps.take (j + 1)).all (psB n) = psB n P := by rw [List.take_succ_eq_append_getElem hj2, List.all_append, HALL.out, hgp]; simp
          have hfls := all_false_b (psB n) ps j hj2
          have hsn := snoc_map n ps j hj2
          rw [hgp] at hfls hsn
          have hpi := psetS_any n P wr (by omega)
          have hbd := psV_bd n P
          obtain ⟨y, hy⟩ : ∃ y, y = psV n P := ⟨_, rfl⟩
          rw [← hy] at hpi hbd hsn
          have hyr : InR y := ⟨by omega, by omega⟩
          have hll : ((ps.take j).map (psV n)).length ≤ 2000001 := by rw [List.length_map, List.length_take]; omega
          obtain ⟨l, hl⟩ : ∃ l, l = (ps.take j).map (psV n) := ⟨_, rfl⟩
          rw [← hl] at ow hsn hll
          have HTK := Lib.hid htk
          have HFLS := Lib.hid hfls
          have HSN := Lib.hid hsn
          have HNXT := Lib.hid HNX
          clear htk hfls hsn hy hl hg hgp HNX
          cases hpb : psB n P with
          | false =>
            rw [hpb] at hpi
            have hpn := HBAD.out (HFLS.out hpb)
            have HPB := Lib.hid (And.intro hpn (pm_no hpn))
            have HPI := Lib.hid hpi
            clear hpi hpb hpn
            go_wp2_with fail
            refine HPI.out.mono ?_
            rintro e w2 ⟨rfl, b2⟩
            have K02 := K0w.keep b2
            have B2 := Bw.after b2 Bw.size
            have G := K02.cell
            have F := K02.frozen
            go_wp2
            refine post_named ?_
            intro Wf hWf
            have t := box_tail (w := w) (E := 27) (m := 0) (b := .slice none 0 0) K02 (OwnI.nil 3 (w2.heap.size) w2) (Nat.le_refl _) K02.lt B2 hWf
            have GF := t.1.cell
            clear hWf G F
            exact bodyPost_ret (v := .tuple #[.agg #[.int .i64 0, .slice none 0 0], .bool false]) (by simp [results, Tryz.results29, go_sem, GF]) rfl ⟨none, 0, 0, by rw [HPB.out.1, HPB.out.2.1], by rw [HPB.out.2.2]; exact t.2.1, t.2.2⟩
          | true =>
            rw [hpb] at hpi
            have htk := HTK.out
            rw [hpb] at htk
            have HTK1 := Lib.hid htk
            have HPI := Lib.hid hpi
            clear hpi hpb htk
            go_wp2_with fail
            refine HPI.out.mono ?_
            rintro e w2 ⟨rfl, b2⟩
            have K02 := K0w.keep b2
            have K12 := K1w.keep b2
            have o2 := ow.keep b2
            have B2 := Bw.after b2 Bw.size
            have z2 := b2.size
            have G := K12.cell
            have F := K12.frozen
            have hlt3 := o2.lt
            clear Bw K0w K1w ow b2
            go_wp2_with (at_builtin; refine wpList_appendI rfl _ _ _ rfl 3 Tryz.underlying22 intElem (w.heap.size + 2) _ l y w2.heap.size rfl rfl (cell_new _ _ _ _ _ rfl) (o2.alloc _) hyr (by omega) (by simp; omega) ?_; intro v7 w7 o7 g7; obtain ⟨p7, i7, q7, rfl⟩ := o7.shape3; have K17 := (K12.alloc (.cells #[.int .i64 y] 3)).grow g7 (by intro e; have := (hlt3 _ e).1; omega); have G7 := K17.cell; have F7 := K17.frozen)
            have K07 := (K02.alloc (.cells #[.int .i64 y] 3)).grow g7 (by intro e; have := (hlt3 _ e).1; omega)
            have B7 : Below w.heap.size w w7 := (B2.alloc B2.size (.cells #[.int .i64 y] 3)).grown g7 (by have := B2.size; simp; omega) (fun q hq => by have := (hlt3 q hq).1; omega)
            have z7 := g7.size
            simp at z7
            go_roundw
            case rel =>
              refine ⟨j + 1, k + 1, _, p7, i7, q7, by go_num, rfl, HTK1.out, HNXT.out, Below.setCell B7 (by show w.heap.size ≤ w.heap.size + 1; omega) _, by show w.heap.size + 2 ≤ (w7.setCell _ _).heap.size; simp; omega, K07.far (by show w.heap.size ≠ w.heap.size + 1; omega) _, ?_, ?_⟩
              · have := K17.set 1 (.slice p7 i7 q7)
                simpa using this
              · rw [HSN.out]
                exact o7.setBelow (by show w.heap.size + 1 < w.heap.size + 2; omega) _
            case measure => simp [intOf]; omega
        · have hcb : ((s[k].toNat : Int) != 124) = true := byte_ne hc
          have hnx := cutAt_next hst hlt hc
          have hz := one_size P s k hlt
          have HNX := Lib.hid hnx
          have hz2 : P.size + 1 ≤ s.size := by omega
          clear hst hc hnx hjl hz
          go_wp2
          go_roundw
          case rel => exact ⟨j, k + 1, _, ad, i, c, by go_num, rfl, HALL.out, .inl HNX.out, Bw, zw, K0w, K1w, ow⟩
          case measure => simp [intOf]; omega
      · have hlt2 : ¬ (k : Int) < (s.size : Int) := by omega
        have hend := cutAt_fin hst hlt
        have hend : j < ps.length ∧ ps.getD j ByteArray.empty = P ∧ (CutAt 124 s ps (j + 1) ByteArray.empty (k + 1) ∨ (k + 1 = s.size + 1 ∧ j + 1 = ps.length)) := ⟨hend.1, hend.2.1, .inr ⟨by omega, hend.2.2⟩⟩
        clear hst hjl
        obtain ⟨hj2, hg, HNX⟩ := hend
        have hsz := HPART.out _ (List.getElem_mem hj2)
        have hgp : ps[j] = P := by rw [← getD_b ps j hj2]; exact hg
        rw [hgp] at hsz
        have htk : (ps.take (j + 1)).all (psB n) = psB n P := by rw [List.take_succ_eq_append_getElem hj2, List.all_append, HALL.out, hgp]; simp
        have hfls := all_false_b (psB n) ps j hj2
        have hsn := snoc_map n ps j hj2
        rw [hgp] at hfls hsn
        have hpi := psetS_any n P wr (by omega)
        have hbd := psV_bd n P
        obtain ⟨y, hy⟩ : ∃ y, y = psV n P := ⟨_, rfl⟩
        rw [← hy] at hpi hbd hsn
        have hyr : InR y := ⟨by omega, by omega⟩
        have hll : ((ps.take j).map (psV n)).length ≤ 2000001 := by rw [List.length_map, List.length_take]; omega
        obtain ⟨l, hl⟩ : ∃ l, l = (ps.take j).map (psV n) := ⟨_, rfl⟩
        rw [← hl] at ow hsn hll
        have HTK := Lib.hid htk
        have HFLS := Lib.hid hfls
        have HSN := Lib.hid hsn
        have HNXT := Lib.hid HNX
        clear htk hfls hsn hy hl hg hgp HNX
        cases hpb : psB n P with
        | false =>
          rw [hpb] at hpi
          have hpn := HBAD.out (HFLS.out hpb)
          have HPB := Lib.hid (And.intro hpn (pm_no hpn))
          have HPI := Lib.hid hpi
          clear hpi hpb hpn
          go_wp2_with fail
          refine HPI.out.mono ?_
          rintro e w2 ⟨rfl, b2⟩
          have K02 := K0w.keep b2
          have B2 := Bw.after b2 Bw.size
          have G := K02.cell
          have F := K02.frozen
          go_wp2
          refine post_named ?_
          intro Wf hWf
          have t := box_tail (w := w) (E := 27) (m := 0) (b := .slice none 0 0) K02 (OwnI.nil 3 (w2.heap.size) w2) (Nat.le_refl _) K02.lt B2 hWf
          have GF := t.1.cell
          clear hWf G F
          exact bodyPost_ret (v := .tuple #[.agg #[.int .i64 0, .slice none 0 0], .bool false]) (by simp [results, Tryz.results29, go_sem, GF]) rfl ⟨none, 0, 0, by rw [HPB.out.1, HPB.out.2.1], by rw [HPB.out.2.2]; exact t.2.1, t.2.2⟩
        | true =>
          rw [hpb] at hpi
          have htk := HTK.out
          rw [hpb] at htk
          have HTK1 := Lib.hid htk
          have HPI := Lib.hid hpi
          clear hpi hpb htk
          go_wp2_with fail
          refine HPI.out.mono ?_
          rintro e w2 ⟨rfl, b2⟩
          have K02 := K0w.keep b2
          have K12 := K1w.keep b2
          have o2 := ow.keep b2
          have B2 := Bw.after b2 Bw.size
          have z2 := b2.size
          have G := K12.cell
          have F := K12.frozen
          have hlt3 := o2.lt
          clear Bw K0w K1w ow b2
          go_wp2_with (at_builtin; refine wpList_appendI rfl _ _ _ rfl 3 Tryz.underlying22 intElem (w.heap.size + 2) _ l y w2.heap.size rfl rfl (cell_new _ _ _ _ _ rfl) (o2.alloc _) hyr (by omega) (by simp; omega) ?_; intro v7 w7 o7 g7; obtain ⟨p7, i7, q7, rfl⟩ := o7.shape3; have K17 := (K12.alloc (.cells #[.int .i64 y] 3)).grow g7 (by intro e; have := (hlt3 _ e).1; omega); have G7 := K17.cell; have F7 := K17.frozen)
          have K07 := (K02.alloc (.cells #[.int .i64 y] 3)).grow g7 (by intro e; have := (hlt3 _ e).1; omega)
          have B7 : Below w.heap.size w w7 := (B2.alloc B2.size (.cells #[.int .i64 y] 3)).grown g7 (by have := B2.size; simp; omega) (fun q hq => by have := (hlt3 q hq).1; omega)
          have z7 := g7.size
          simp at z7
          go_roundw
          case rel =>
            refine ⟨j + 1, k + 1, _, p7, i7, q7, by go_num, rfl, HTK1.out, HNXT.out, Below.setCell B7 (by show w.heap.size ≤ w.heap.size + 1; omega) _, by show w.heap.size + 2 ≤ (w7.setCell _ _).heap.size; simp; omega, K07.far (by show w.heap.size ≠ w.heap.size + 1; omega) _, ?_, ?_⟩
            · have := K17.set 1 (.slice p7 i7 q7)
              simpa using this
            · rw [HSN.out]
              exact o7.setBelow (by show w.heap.size + 1 < w.heap.size + 2; omega) _
          case measure => simp [intOf]; omega
    · have hle : ¬ (k : Int) ≤ (s.size : Int) := by omega
      have hall := HALL.out
      rw [hj1, List.take_length] at hall ow
      have hfb := HFIN.out hall
      have hyy := HYES.out
      have hpno := pm_no (n := n) (s := s)
      obtain ⟨l, hl⟩ : ∃ l, l = ps.map (psV n) := ⟨_, rfl⟩
      rw [← hl] at ow hfb hyy
      clear hk1 hj1 hall hl
      have hic := ow.ints.capLe.1
      subst hic
      have hfm := isFamS_any n l _ wr ow.ints
      rw [← hfb] at hfm
      have HYY := Lib.hid hyy
      have HPN := Lib.hid hpno
      have HFM := Lib.hid hfm
      have G1 := K1w.cell
      clear hfb hyy hpno hfm
      go_wp2_with fail
      refine HFM.out.mono ?_
      rintro e w2 ⟨rfl, b2⟩
      have K02 := K0w.keep b2
      have K12 := K1w.keep b2
      have o2 := ow.keep b2
      have B2 := Bw.after b2 Bw.size
      clear G1
      have G0 := K02.cell
      have F0 := K02.frozen
      have G1 := K12.cell
      cases hpb : pmB n s with
      | false =>
        have HPB := Lib.hid (HPN.out hpb)
        have HPB2 := Lib.hid hpb
        clear hpb
        go_wp2
        refine post_named ?_
        intro Wf hWf
        have t := box_tail (w := w) (E := 27) (m := 0) (b := .slice none 0 0) K02 (OwnI.nil 3 (w2.heap.size) w2) (Nat.le_refl _) K02.lt B2 hWf
        have GF := t.1.cell
        clear hWf G0 F0 G1
        exact bodyPost_ret (v := .tuple #[.agg #[.int .i64 0, .slice none 0 0], .bool false]) (by simp [results, Tryz.results29, go_sem, GF]) rfl ⟨none, 0, 0, by rw [HPB.out.1, HPB2.out], by rw [HPB.out.2]; exact t.2.1, t.2.2⟩
      | true =>
        have HPB := Lib.hid (HYY.out hpb)
        have HPB2 := Lib.hid hpb
        clear hpb
        go_wp2
        refine post_named ?_
        intro Wf hWf
        have t := box_tail (w := w) (E := 27) (m := n) (b := .slice ad l.length c) K02 o2 (Nat.le_refl _) (by omega) B2 hWf
        have GF := t.1.cell
        clear hWf G0 F0 G1
        exact bodyPost_ret (v := .tuple #[.agg #[.int .i64 n, .slice ad l.length c], .bool true]) (by simp [results, Tryz.results29, go_sem, GF]) rfl ⟨_, _, _, by rw [HPB.out.1, HPB2.out], by rw [HPB.out.2]; exact t.2.1, t.2.2⟩
end Go.Proofs.YtipejodijbjpcaaGreatDoor
end
section
namespace Go.Proofs.YtipejodijbjpcaaGreatDoor
open Go.RowKit Go.G5

/-- the values of a function given by its numbers -/
def madeL (F : Nat → Int) (k : Nat) : List Int := (List.range k).map F
theorem madeL_succ (F : Nat → Int) (k : Nat) : madeL F (k + 1) = madeL F k ++ [F k] := by unfold madeL; rw [List.range_succ, List.map_append]; rfl

set_option maxHeartbeats 2000000 in
set_option maxRecDepth 100000 in
theorem makeFunction_any (w : World) (n : Nat) (hn : n ≤ 5) (c : FuncId) (he : ∀ args w, (callFunc c args).run Tryz.prog w = .ok (.enter c args) w) (g : Nat) (F : Nat → Int) (hF : ∀ s, s < 2 ^ n → InR (F s))
    (hw : ∀ (s : Nat) W', s < 2 ^ n → Below w.heap.size w W' → Calls Tryz.prog c #[.int .i64 (s : Int), .pointer (some ⟨g, 0, none⟩)] W' fun e w2 => e = .returned (.int .i64 (F s)) ∧ Below W'.heap.size W' w2) :
    Calls Tryz.prog 273 #[.int .i64 (n : Int), .func (.func c) #[] #[.pointer (some ⟨g, 0, none⟩)]] w fun e w' =>
      ∃ ad i cp, e = .returned (.tuple #[.agg #[.int .i64 (if isFunB n (madeL F (2 ^ n)) then (n : Int) else 0), .slice ad i cp], .bool (isFunB n (madeL F (2 ^ n)))]) ∧ OwnI 3 w.heap.size w' (.slice ad i cp) (if isFunB n (madeL F (2 ^ n)) then madeL F (2 ^ n) else []) ∧ Below w.heap.size w w' := by
  have hpn : (2 : Nat) ^ n ≤ 32 := Nat.pow_le_pow_right (by decide) hn
  have hp1 := Nat.two_pow_pos n
  have hpi : ((2 ^ n : Nat) : Int) = (2 : Int) ^ n := by simp
  obtain ⟨N, hN⟩ : ∃ N : Nat, N = 2 ^ n := ⟨_, rfl⟩
  rw [← hN] at hw hF hpn hp1 hpi ⊢
  clear hN
  have r0 := (BoxAt.new w (.int .i64 0) (.slice none 0 0) 32)
  have r1 := r0.keep (bl1 _ (.cells #[.int .i64 n, .slice none 0 0] 32))
  have b1 := BoxAt.new (w.alloc (.cells #[.int .i64 0, .slice none 0 0] 32)) (.int .i64 n) (.slice none 0 0) 32
  go_enter Tryz.func273, Tryz.ntmps273
  go_wp2_with fail
  go_loopw [13] (fun i wr => ∃ (k : Nat) (ad : Option Addr) (nn cp : Nat), k ≤ N ∧ i = .int .i64 k ∧ OwnI 3 (w.heap.size + 1 + 1) wr (.slice ad nn cp) (madeL F k) ∧ Below w.heap.size w wr ∧
      BoxAt wr w.heap.size (.int .i64 0) (.slice none 0 0) ∧ BoxAt wr (w.heap.size + 1) (.int .i64 n) (.slice ad nn cp))
    (fun i _ => N - (intOf i).toNat)
  case atStart => exact ⟨0, none, 0, 0, Nat.zero_le _, rfl, OwnI.nil _ _ _, (by repeat (first | exact Below.refl _ _ | (with_reducible refine Below.setCell ?_ (by first | omega | (simp; done) | (simp; omega)) _) | (with_reducible refine Below.alloc ?_ (by first | omega | (simp; done) | (simp; omega)) _) | (with_reducible refine Below.drewN' ?_ _) | (with_reducible refine Below.drew ?_) | (with_reducible assumption) | refine Below.trans ?_ (Below.mono (by assumption) (by first | omega | (simp; done) | (simp; omega))))), r1, by simpa using b1⟩
  case round =>
    obtain ⟨k, ad, nn, cp, hk, rfl, ho, B, R, X⟩ := hrel
    clear r0 r1 b1
    by_cases hlt : k < N
    · have hlt2 : (k : Int) < 2 ^ n := by rw [← hpi]; exact_mod_cast hlt
      have zr := R.lt
      have zx := X.lt
      have hFk := hF k hlt
      have hlen : (madeL F k).length = k := by simp [madeL]
      have hlk : (madeL F k).length ≤ 64 := by omega
      have hrow := ho.lt
      have HO := Lib.hid ho
      have HR := Lib.hid R
      have HXX := Lib.hid X
      obtain ⟨e0, e1, g0, g1⟩ := X
      clear ho R
      have hcl := hw k wr.drew hlt B.drew
      clear hw
      go_wp2
      go_region_law
        (first
          | (go_simp; go_at_fn c; refine hcl.mono ?_; rintro e w2 ⟨rfl, hb2⟩; have X2 := HXX.out.keep ((Below.refl _ _).drew.after hb2 (Nat.le_refl _)); have X3 := X2.keep (bl1 w2 (.cells #[.int .i64 (F k)] 3)); have zz2 := X2.lt; have x1 := X2.d1; have x2 := X2.f1; have x3 := X3.d1; have x4 := X3.f1)
          | (refine step_appendI rfl _ _ _ rfl 3 Tryz.underlying22 intElem (w.heap.size + 1 + 1) _ _ (F k) w2.heap.size rfl rfl (cell_new w2 #[.int .i64 (F k)] 3 0 _ rfl) ((HO.out.keep ((Below.refl _ _).drew.after hb2 (Nat.le_refl _))).alloc (.cells #[.int .i64 (F k)] 3)) hFk (by omega) (by simp; omega) ?_; intro v' w6 hown hgr; obtain ⟨av, nv, cv, rfl⟩ := hown.shape3; have X6 := X3.grow hgr (fun e => by have := (hrow _ e).1; omega); obtain ⟨i0, i1, j0, j1⟩ := X6))
      all_goals
       have B6 : Below w.heap.size w w6 := (((B.drew).after hb2 B.size).alloc (B.drew.after hb2 B.size).size (.cells #[.int .i64 (F k)] 3)).grown hgr (by simp; omega) (fun q hq => by have := (hrow q hq).1; omega)
       have R6 := ((HR.out.keep ((Below.refl _ _).drew.after hb2 (Nat.le_refl _))).keep (bl1 w2 (.cells #[.int .i64 (F k)] 3))).grow hgr (fun e => by have := (hrow _ e).1; omega)
       go_wp2
       go_roundw
       case rel => exact ⟨k + 1, av, nv, cv, by omega, by go_num, by rw [madeL_succ]; exact hown.setBelow (by first | omega | (simp; done) | (simp; omega)) _, B6.setCell (by first | omega | (simp; done) | (simp; omega)) _, R6.other (by omega) _, (BoxAt.mk i0 i1 j0 j1).set1 _⟩
       case measure => simp [intOf]; omega
    · have hlt2 : ¬ (k : Int) < 2 ^ n := by rw [← hpi]; exact_mod_cast hlt
      have hkN : k = N := by omega
      subst hkN
      have HO := Lib.hid ho
      have HR := Lib.hid R
      have HXX := Lib.hid X
      obtain ⟨e0, e1, g0, g1⟩ := X
      have hi := ho.ints
      clear ho hw R
      go_wp2_with fail
      refine (isFunI_any n _ _ _ hi).mono ?_
      rintro e w2 ⟨rfl, hb2⟩
      have B2 := B.after hb2 B.size
      have o2 := HO.out.keep hb2
      have HO2 := Lib.hid o2
      obtain ⟨f0, f1, j0, j1⟩ := HR.out.keep hb2
      obtain ⟨i0, i1, q0, q1⟩ := HXX.out.keep hb2
      clear e0 e1 g0 g1 hb2 B o2 hi
      cases hf : isFunB n (madeL F k) with
      | false =>
        have HF := Lib.hid hf
        go_wp2
        all_goals refine bodyPost_ret (v := .tuple #[.agg #[.int .i64 0, .slice none 0 0], .bool false]) (by simp [results, Tryz.results273, go_sem, f0, f1]) rfl ⟨none, 0, 0, rfl, OwnI.nil _ _ _, Below.setCell (Below.setCell B2 (Nat.le_refl _) _) (Nat.le_refl _) _⟩
      | true =>
        have HF := Lib.hid hf
        go_wp2
        refine bodyPost_ret (v := .tuple #[.agg #[.int .i64 n, .slice ad nn cp], .bool true]) (by simp [results, Tryz.results273, go_sem, f0, f1]) rfl ⟨ad, nn, cp, rfl, ?_, ?_⟩
        · exact ((HO2.out.setBelow (by first | omega | (simp; done) | (simp; omega)) _).setBelow (by first | omega | (simp; done) | (simp; omega)) _).mono (by first | omega | (simp; done) | (simp; omega))
        · exact Below.setCell (Below.setCell B2 (Nat.le_refl _) _) (Nat.le_refl _) _
end Go.Proofs.YtipejodijbjpcaaGreatDoor
end
section
namespace Go.Proofs.YtipejodijbjpcaaGreatDoor
open Go.RowKit Go.G5

end Go.Proofs.YtipejodijbjpcaaGreatDoor
end
section
namespace Go.Proofs.YtipejodijbjpcaaGreatDoor
open Go.RowKit Go.G5

/-- the sum of the signed values of the parts of s below k -/
def massTo (l : List Int) (s : Nat) : Nat → Int
  | 0 => 0
  | k + 1 => if ndiff k s = 0 then (if pop (ndiff s k) % 2 = 1 then massTo l s k - l.getD k 0 else massTo l s k + l.getD k 0) else massTo l s k
def masses (l : List Int) : List Int := (List.range l.length).map fun s => massTo l s (s + 1)
end Go.Proofs.YtipejodijbjpcaaGreatDoor
end
section
namespace Go.Proofs.YtipejodijbjpcaaGreatDoor
open Go.RowKit Go.G5

theorem l2Made_yes (w : World) (n : Int) (ad : Option Addr) (i cp : Nat) (l : List Int) (hv : Ints w (.slice ad i cp) l) (hf : isFunB n l = true) :
    Calls Tryz.prog 113 #[.int .i64 n, .slice ad i cp] w fun e w' => e = .returned (.tuple #[.agg #[.int .i64 n, .slice ad i cp], .bool true]) ∧ Below w.heap.size w w' := by
  go_enter Tryz.func113, Tryz.ntmps113
  go_wp2_with fail
  refine (isFunS_any n l _ _ (hv.below (by repeat (first | exact Below.refl _ _ | (with_reducible refine Below.setCell ?_ (by first | omega | (simp; done) | (simp; omega)) _) | (with_reducible refine Below.alloc ?_ (by first | omega | (simp; done) | (simp; omega)) _) | (with_reducible refine Below.drewN' ?_ _) | (with_reducible refine Below.drew ?_) | (with_reducible assumption) | refine Below.trans ?_ (Below.mono (by assumption) (by first | omega | (simp; done) | (simp; omega))))) (Nat.le_refl _))).mono ?_
  rintro e w1 ⟨rfl, hb⟩
  rw [hf]
  obtain ⟨hc, hff⟩ := bcellN hb (w.heap.size + 1 + 1) (by first | omega | (simp; done) | (simp; omega))
  have z := hb.size
  simp at z
  go_wp2
  exact bodyPost_ret (v := .tuple #[.agg #[.int .i64 n, .slice ad i cp], .bool true]) (by simp [results, Tryz.results113, go_sem, hc]) rfl ⟨rfl, (by repeat (first | exact Below.refl _ _ | (with_reducible refine Below.setCell ?_ (by first | omega | (simp; done) | (simp; omega)) _) | (with_reducible refine Below.alloc ?_ (by first | omega | (simp; done) | (simp; omega)) _) | (with_reducible refine Below.drewN' ?_ _) | (with_reducible refine Below.drew ?_) | (with_reducible assumption) | refine Below.trans ?_ (Below.mono (by assumption) (by first | omega | (simp; done) | (simp; omega)))))⟩
theorem l2Made_no (w : World) (n : Int) (ad : Option Addr) (i cp : Nat) (l : List Int) (hv : Ints w (.slice ad i cp) l) (hf : isFunB n l = false) :
    Calls Tryz.prog 113 #[.int .i64 n, .slice ad i cp] w fun e w' => e = .returned (.tuple #[.agg #[.int .i64 0, .slice none 0 0], .bool false]) ∧ Below w.heap.size w w' := by
  go_enter Tryz.func113, Tryz.ntmps113
  go_wp2_with fail
  refine (isFunS_any n l _ _ (hv.below (by repeat (first | exact Below.refl _ _ | (with_reducible refine Below.setCell ?_ (by first | omega | (simp; done) | (simp; omega)) _) | (with_reducible refine Below.alloc ?_ (by first | omega | (simp; done) | (simp; omega)) _) | (with_reducible refine Below.drewN' ?_ _) | (with_reducible refine Below.drew ?_) | (with_reducible assumption) | refine Below.trans ?_ (Below.mono (by assumption) (by first | omega | (simp; done) | (simp; omega))))) (Nat.le_refl _))).mono ?_
  rintro e w1 ⟨rfl, hb⟩
  rw [hf]
  obtain ⟨hc, hff⟩ := bcellN hb (w.heap.size + 1 + 1) (by first | omega | (simp; done) | (simp; omega))
  have z := hb.size
  simp at z
  go_wp2
  exact bodyPost_ret (v := .tuple #[.agg #[.int .i64 0, .slice none 0 0], .bool false]) (by simp [results, Tryz.results113, go_sem, hc]) rfl ⟨rfl, (by repeat (first | exact Below.refl _ _ | (with_reducible refine Below.setCell ?_ (by first | omega | (simp; done) | (simp; omega)) _) | (with_reducible refine Below.alloc ?_ (by first | omega | (simp; done) | (simp; omega)) _) | (with_reducible refine Below.drewN' ?_ _) | (with_reducible refine Below.drew ?_) | (with_reducible assumption) | refine Below.trans ?_ (Below.mono (by assumption) (by first | omega | (simp; done) | (simp; omega)))))⟩

theorem l2Made_any (w : World) (n : Int) (ad : Option Addr) (i cp : Nat) (l : List Int) (hv : Ints w (.slice ad i cp) l) (hf : Bool) (h : isFunB n l = hf) :
    Calls Tryz.prog 113 #[.int .i64 n, .slice ad i cp] w fun e w' => ∃ ad' i' cp', e = .returned (.tuple #[.agg #[.int .i64 (if hf then n else 0), .slice ad' i' cp'], .bool hf]) ∧ (.slice ad' i' cp' : Value) = (if hf then .slice ad i cp else .slice none 0 0) ∧ Below w.heap.size w w' := by
  cases hf
  · exact (l2Made_no w n ad i cp l hv h).mono fun e w' ⟨h1, h2⟩ => ⟨_, _, _, h1, rfl, h2⟩
  · exact (l2Made_yes w n ad i cp l hv h).mono fun e w' ⟨h1, h2⟩ => ⟨_, _, _, h1, rfl, h2⟩

end Go.Proofs.YtipejodijbjpcaaGreatDoor
end
section
namespace Go.Proofs.YtipejodijbjpcaaGreatDoor
open Go.Shelf
set_option maxRecDepth 100000
def sg_lays125_ren : Go.Shelf.Ren := ⟨fun | 125 => 110 | 128 => 240 | 129 => 241 | n => n, fun | 46 => 105 | 3 => 3 | 51 => 161 | 53 => 163 | 4 => 4 | 5 => 5 | 9 => 9 | n => n, fun | n => n⟩
theorem sg_lays125 : Go.Proofs.Lays.n125 Tryz.prog sg_lays125_ren := {
  mixed := by kernel_rfl
  f125 := Tryz.func110.trans (congrArg some (by kernel_rfl))
  f128 := Tryz.func240.trans (congrArg some (by kernel_rfl))
  f129 := Tryz.func241.trans (congrArg some (by kernel_rfl))
  t3 := Tryz.underlying3
  a3 := Tryz.isAgg3
  z3 := Tryz.sizeOf3
  v3 := Tryz.zeroValue3
  t4 := Tryz.underlying4
  a4 := Tryz.isAgg4
  z4 := Tryz.sizeOf4
  v4 := Tryz.zeroValue4
  t5 := Tryz.underlying5
  a5 := Tryz.isAgg5
  z5 := Tryz.sizeOf5
  v5 := Tryz.zeroValue5
  t9 := Tryz.underlying9
  a9 := Tryz.isAgg9
  z9 := Tryz.sizeOf9
  v9 := Tryz.zeroValue9
  t46 := Tryz.underlying105
  a46 := Tryz.isAgg105
  z46 := Tryz.sizeOf105
  v46 := Tryz.zeroValue105
  t51 := Tryz.underlying161
  a51 := Tryz.isAgg161
  z51 := Tryz.sizeOf161
  v51 := Tryz.zeroValue161
  t53 := Tryz.underlying163
  a53 := Tryz.isAgg163
  z53 := Tryz.sizeOf163
  v53 := Tryz.zeroValue163 }
theorem sg_bits_Len (x : Int) (w : World) (h0 : 0 ≤ x) (h1 : x ≤ 18446744073709551615) :
    Calls Tryz.prog 110 #[.int .u64 x] w fun e w' => e = .returned (.int .i64 (Lib.bitLen x.toNat)) ∧ w' = w := Any.bits_Len sg_lays125 x w h0 h1
end Go.Proofs.YtipejodijbjpcaaGreatDoor
end
section
namespace Go.Proofs.YtipejodijbjpcaaGreatDoor
open Go.RowKit Go.G5

/-- as many elements as a list of m numbers may have -/
def lgN (m : Nat) : Int := (Lib.bitLen m : Int) - 1
theorem lg_pow : ∀ n : Nat, n < 6 → Lib.bitLen (2 ^ n) = n + 1 := by decide +kernel
theorem bitLen_small : ∀ m : Nat, m < 256 → Lib.bitLen m ≤ 8 := by decide +kernel
theorem lgN_bd (m : Nat) (h : m < 256) : -1 ≤ lgN m ∧ lgN m ≤ 7 := by
  have := bitLen_small m h
  unfold lgN; omega
theorem lgN_pow (n : Nat) (h : n < 6) : lgN (2 ^ n) = n := by unfold lgN; rw [lg_pow n h]; omega
def fdB (s : ByteArray) : Bool := decide (s.size ≤ 200) && ((cutB 44 s).all pB && isFunB (lgN (cutB 44 s).length) ((cutB 44 s).map pN))
def fdN (s : ByteArray) : Int := if fdB s then lgN (cutB 44 s).length else 0
def fdL (s : ByteArray) : List Int := if fdB s then (cutB 44 s).map pN else []
theorem fd_no {s : ByteArray} (h : fdB s = false) : fdN s = 0 ∧ fdL s = [] := by unfold fdN fdL; rw [h]; exact ⟨rfl, rfl⟩
theorem fd_yes {s : ByteArray} (h : fdB s = true) : fdN s = lgN (cutB 44 s).length ∧ fdL s = (cutB 44 s).map pN := by unfold fdN fdL; rw [h]; exact ⟨rfl, rfl⟩
theorem fd_long {s : ByteArray} (h : ¬ s.size ≤ 200) : fdB s = false := by unfold fdB; rw [decide_eq_false h]; rfl
theorem fd_bad {s : ByteArray} (h : (cutB 44 s).all pB = false) : fdB s = false := by unfold fdB; rw [h]; simp
theorem fd_fin {s : ByteArray} (hs : s.size ≤ 200) (h : (cutB 44 s).all pB = true) : fdB s = isFunB (lgN (cutB 44 s).length) ((cutB 44 s).map pN) := by
  unfold fdB; rw [h, decide_eq_true hs]; simp
theorem fd_fun {s : ByteArray} (h : fdB s = true) : isFunB (fdN s) (fdL s) = true := by
  obtain ⟨h1, h2⟩ := fd_yes h
  rw [h1, h2]
  unfold fdB at h
  simp only [Bool.and_eq_true] at h
  exact h.2.2
/-- a list that is of none of the lengths is no function -/
theorem fd_none {s : ByteArray} (hs : s.size ≤ 200) (h : (cutB 44 s).all pB = true) (hn : ∀ n : Nat, n < 6 → (cutB 44 s).length ≠ 2 ^ n) : fdB s = false := by
  rw [fd_fin hs h]
  cases hf : isFunB (lgN (cutB 44 s).length) ((cutB 44 s).map pN) with
  | false => rfl
  | true =>
    obtain ⟨N, _, h5, hl, _⟩ := fun_nat hf
    rw [List.length_map] at hl
    exact absurd hl (hn N (by omega))
theorem snoc_pN (ps : List ByteArray) (k : Nat) (h : k < ps.length) : (ps.take (k + 1)).map pN = (ps.take k).map pN ++ [pN ps[k]] := by
  rw [List.take_succ_eq_append_getElem h, List.map_append]; rfl
end Go.Proofs.YtipejodijbjpcaaGreatDoor
end
