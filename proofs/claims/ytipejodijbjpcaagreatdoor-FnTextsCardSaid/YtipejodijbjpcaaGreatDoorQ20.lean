/- Functions that are read: the first program. Laminar families. Antichains. Sets that contain no other one; blockers. Families of bases: what is computed. Families of bases: the first program. Families of bases: the first program's test. Families of bases: the second program's test. -/
import Derived.Test.YtipejodijbjpcaaGreatDoorQ19
import Derived.Deep.DeepCutAuto
import Derived.Shelf.Abstract
section
namespace Go.Proofs.YtipejodijbjpcaaGreatDoor
open Go.RowKit Go.G5

set_option maxHeartbeats 2000000 in
set_option maxRecDepth 100000 in
theorem pfunI_any (s : ByteArray) (w : World) (hs : s.size ≤ 2000000) (hp : Pow w) (hm : MaxL w) :
    Calls Tryz.prog 11 #[.string s] w fun e w' => ∃ ad i c, e = .returned (.tuple #[.agg #[.int .i64 (fdN s), .slice ad i c], .bool (fdB s)]) ∧ OwnI 3 w.heap.size w' (.slice ad i c) (fdL s) ∧ Below w.heap.size w w' := by
  obtain ⟨W1, hW1⟩ : ∃ W, W = w.alloc (.cells #[.int .i64 0, .slice none 0 0] 32) := ⟨_, rfl⟩
  have K0 : Blk W1 w.heap.size 32 #[.int .i64 0, .slice none 0 0] := by rw [hW1]; exact Blk.new _ _ _
  have B0 : Below w.heap.size w W1 := by rw [hW1]; exact bl1 _ _
  have hz1 : W1.heap.size = w.heap.size + 1 := by rw [hW1]; simp
  by_cases h200 : s.size ≤ 200
  rotate_left
  · have hpb := fd_long h200
    have HPB := Lib.hid (And.intro hpb (fd_no hpb))
    have hgt : (200 : Int) < (s.size : Int) := by omega
    have G := K0.cell
    have F := K0.frozen
    clear hpb
    go_enter Tryz.func11, Tryz.ntmps11
    go_upto_region 1 with fail
    rw [← hW1]
    clear hW1
    go_wp2
    refine post_named ?_
    intro Wf hWf
    have t := box_tail (w := w) (E := 32) (m := 0) (b := .slice none 0 0) K0 (OwnI.nil 3 (W1.heap.size) W1) (Nat.le_refl _) (by omega) B0 hWf
    have GF := t.1.cell
    exact bodyPost_ret (v := .tuple #[.agg #[.int .i64 0, .slice none 0 0], .bool false]) (by simp [results, Tryz.results11, go_sem, GF]) rfl ⟨none, 0, 0, by rw [HPB.out.1, HPB.out.2.1], by rw [HPB.out.2.2]; exact t.2.1, t.2.2⟩
  have hgt : ¬ (200 : Int) < (s.size : Int) := by omega
  obtain ⟨V, hV⟩ : ∃ V, V = W1.alloc (.cells #[.int .i64 0, .slice none 0 0] 32) := ⟨_, rfl⟩
  have K0V : Blk V w.heap.size 32 #[.int .i64 0, .slice none 0 0] := by rw [hV]; exact K0.alloc _
  have K1V : Blk V (w.heap.size + 1) 32 #[.int .i64 0, .slice none 0 0] := by rw [hV, ← hz1]; exact Blk.new _ _ _
  have BV : Below w.heap.size w V := by rw [hV]; exact B0.alloc (by omega) _
  have hzV : V.heap.size = w.heap.size + 2 := by rw [hV]; simp; omega
  have HZ := Lib.hid (And.intro hz1 hzV)
  have hz1' : w.heap.size + 1 ≤ W1.heap.size := by omega
  have hbad := fd_bad (s := s)
  have hfin := fd_fin h200
  have hyes := fd_yes (s := s)
  have hlen := cutB_len 44 s
  have hpart := cutB_part 44 s
  have hsp := split_c 44 s V (hm.keep (by rw [hV, hW1]; exact bl2 _ _ _)) (by omega)
  obtain ⟨ps, hps⟩ : ∃ ps, ps = cutB 44 s := ⟨_, rfl⟩
  rw [← hps] at hbad hfin hyes hlen hpart hsp
  rw [hzV] at hsp
  have HBAD := Lib.hid hbad
  have HFIN := Lib.hid hfin
  have HYES := Lib.hid hyes
  have HPART := Lib.hid hpart
  have HSP := Lib.hid hsp
  clear hbad hfin hyes hpart hsp hps
  go_enter Tryz.func11, Tryz.ntmps11
  go_upto_region 1 with fail
  rw [← hW1]
  clear hW1
  go_upto_region 4 with fail
  rw [← hV]
  clear hV hz1 hzV
  go_wp2_with fail
  refine HSP.out.mono ?_
  rintro e w1 ⟨rfl, rfl⟩
  have K2U : Blk (V.alloc (.cells (ps.map Value.string).toArray 9)) (w.heap.size + 2) 9 (ps.map Value.string).toArray := by rw [← HZ.out.2]; exact Blk.new _ _ _
  have K0U := K0V.alloc (.cells (ps.map Value.string).toArray 9)
  have K1U := K1V.alloc (.cells (ps.map Value.string).toArray 9)
  have BU := BV.alloc BV.size (.cells (ps.map Value.string).toArray 9)
  have o0 := OwnI.nil 3 (w.heap.size + 3) (V.alloc (.cells (ps.map Value.string).toArray 9))
  have zU : w.heap.size + 3 ≤ (V.alloc (.cells (ps.map Value.string).toArray 9)).heap.size := by have := HZ.out.2; simp; omega
  obtain ⟨U, hU⟩ : ∃ U, U = V.alloc (.cells (ps.map Value.string).toArray 9) := ⟨_, rfl⟩
  rw [← hU] at K2U K0U K1U BU o0 zU ⊢
  clear hU HSP K0V K1V BV K0 B0
  go_wp2_with fail
  go_loopw [16] (fun iv wr => ∃ (k : Nat) (ad : Option Addr) (i c : Nat), k ≤ ps.length ∧ iv = .int .i64 k ∧ (ps.take k).all pB = true ∧ Below w.heap.size w wr ∧ w.heap.size + 3 ≤ wr.heap.size ∧ Blk wr w.heap.size 32 #[.int .i64 0, .slice none 0 0] ∧ Blk wr (w.heap.size + 1) 32 #[.int .i64 0, .slice ad i c] ∧ Blk wr (w.heap.size + 2) 9 (ps.map Value.string).toArray ∧ OwnI 3 (w.heap.size + 3) wr (.slice ad i c) ((ps.take k).map pN)) (fun iv _ => ps.length - (intOf iv).toNat)
  case atStart => exact ⟨0, none, 0, 0, Nat.zero_le _, rfl, rfl, BU, zU, K0U, K1U, K2U, o0⟩
  case round =>
    obtain ⟨k, ad, i, c, hk, rfl, hall, Bw, zw, K0w, K1w, K2w, ow⟩ := hrel
    have HALL := Lib.hid hall
    clear hall BU zU K0U K1U K2U o0
    by_cases hlt : k < ps.length
    · have hlt2 : (k : Int) < (ps.length : Int) := by omega
      have hcell := cut_cell K2w k hlt
      have hix := fun W => ix_str (w.heap.size + 2) ps.length ps.length k hlt W
      have hsz := HPART.out _ (List.getElem_mem hlt)
      have htk : (ps.take (k + 1)).all pB = pB ps[k] := by rw [List.take_succ_eq_append_getElem hlt, List.all_append, HALL.out]; simp
      have hfls := all_false_b pB ps k hlt
      have hsn := snoc_pN ps k hlt
      obtain ⟨x, hx⟩ : ∃ x, x = ps[k] := ⟨_, rfl⟩
      rw [← hx] at hcell hsz htk hfls hsn
      have hpi := parseI_any x wr (by omega) (hp.keep Bw)
      obtain ⟨y, hy⟩ : ∃ y, y = pN x := ⟨_, rfl⟩
      rw [← hy] at hsn
      have hyr : pB x = true → InR y ∧ pV x = y := fun h => by
        have h3 := pB_is h
        rw [← hy] at h3
        exact ⟨⟨by omega, by omega⟩, by rw [hy]; exact pV_yes h⟩
      have hll : ((ps.take k).map pN).length ≤ 2000001 := by rw [List.length_map, List.length_take]; omega
      obtain ⟨l, hl⟩ : ∃ l, l = (ps.take k).map pN := ⟨_, rfl⟩
      rw [← hl] at ow hsn hll
      have HTK := Lib.hid htk
      have HFLS := Lib.hid hfls
      have HSN := Lib.hid hsn
      clear htk hfls hsn hx hy hl
      cases hpb : pB x with
      | false =>
        rw [hpb, pV_no hpb] at hpi
        have hpn := HBAD.out (HFLS.out hpb)
        have HPB := Lib.hid (And.intro hpn (fd_no hpn))
        have HPI := Lib.hid hpi
        clear hpi hpb hpn hyr
        go_wp2_with fail
        refine HPI.out.mono ?_
        rintro e w2 ⟨rfl, b2⟩
        have K02 := K0w.keep b2
        have B2 := Bw.after b2 Bw.size
        have G := K02.cell
        have F := K02.frozen
        clear hcell hix
        go_wp2
        refine post_named ?_
        intro Wf hWf
        have t := box_tail (w := w) (E := 32) (m := 0) (b := .slice none 0 0) K02 (OwnI.nil 3 (w2.heap.size) w2) (Nat.le_refl _) K02.lt B2 hWf
        have GF := t.1.cell
        clear hWf G F
        exact bodyPost_ret (v := .tuple #[.agg #[.int .i64 0, .slice none 0 0], .bool false]) (by simp [results, Tryz.results11, go_sem, GF]) rfl ⟨none, 0, 0, by rw [HPB.out.1, HPB.out.2.1], by rw [HPB.out.2.2]; exact t.2.1, t.2.2⟩
      | true =>
        obtain ⟨hyr, hpv⟩ := hyr hpb
        rw [hpb, hpv] at hpi
        have htk := HTK.out
        rw [hpb] at htk
        have HTK1 := Lib.hid htk
        have HPI := Lib.hid hpi
        clear hpi hpb htk hpv
        go_wp2_with fail
        refine HPI.out.mono ?_
        rintro e w2 ⟨rfl, b2⟩
        have K02 := K0w.keep b2
        have K12 := K1w.keep b2
        have K22 := K2w.keep b2
        have o2 := ow.keep b2
        have B2 := Bw.after b2 Bw.size
        have z2 := b2.size
        have G := K12.cell
        have F := K12.frozen
        have hlt3 := o2.lt
        clear hcell hix Bw K0w K1w K2w ow b2
        go_wp2_with (at_builtin; refine wpList_appendI rfl _ _ _ rfl 3 Tryz.underlying22 intElem (w.heap.size + 3) _ l y w2.heap.size rfl rfl (cell_new _ _ _ _ _ rfl) (o2.alloc _) hyr (by omega) (by simp; omega) ?_; intro v7 w7 o7 g7; obtain ⟨p7, i7, q7, rfl⟩ := o7.shape3; have K17 := (K12.alloc (.cells #[.int .i64 y] 3)).grow g7 (by intro e; have := (hlt3 _ e).1; omega); have G7 := K17.cell; have F7 := K17.frozen)
        have K07 := (K02.alloc (.cells #[.int .i64 y] 3)).grow g7 (by intro e; have := (hlt3 _ e).1; omega)
        have K27 := (K22.alloc (.cells #[.int .i64 y] 3)).grow g7 (by intro e; have := (hlt3 _ e).1; omega)
        have B7 : Below w.heap.size w w7 := (B2.alloc B2.size (.cells #[.int .i64 y] 3)).grown g7 (by have := B2.size; simp; omega) (fun q hq => by have := (hlt3 q hq).1; omega)
        have z7 := g7.size
        simp at z7
        go_roundw
        case rel =>
          refine ⟨k + 1, p7, i7, q7, by omega, by go_num, HTK1.out, Below.setCell B7 (by show w.heap.size ≤ w.heap.size + 1; omega) _, by show w.heap.size + 3 ≤ (w7.setCell _ _).heap.size; simp; omega, K07.far (by show w.heap.size ≠ w.heap.size + 1; omega) _, ?_, K27.far (by show w.heap.size + 2 ≠ w.heap.size + 1; omega) _, ?_⟩
          · have := K17.set 1 (.slice p7 i7 q7)
            simpa using this
          · rw [HSN.out]
            exact o7.setBelow (by show w.heap.size + 1 < w.heap.size + 3; omega) _
        case measure => simp [intOf]; omega
    · have hlt2 : ¬ (k : Int) < (ps.length : Int) := by omega
      have hkl : k = ps.length := by omega
      have hall := HALL.out
      rw [hkl, List.take_length] at hall ow
      have hfb := HFIN.out hall
      have hyy := HYES.out
      have hpno := fd_no (s := s)
      have hll : (ps.map pN).length ≤ 201 := by rw [List.length_map]; omega
      obtain ⟨l, hl⟩ : ∃ l, l = ps.map pN := ⟨_, rfl⟩
      have hpl : ps.length = l.length := by rw [hl, List.length_map]
      rw [← hl, hpl] at hfb hyy
      rw [← hl] at ow hll
      have hic := ow.ints.capLe.1
      subst hic
      have hlg := lgN_bd l.length (by omega)
      have hbl := fun W => sg_bits_Len (l.length : Int) W (by omega) (by omega)
      have hbe : (Lib.bitLen ((l.length : Int)).toNat : Int) = lgN l.length + 1 := by unfold lgN; rw [Int.toNat_natCast]; omega
      simp only [hbe] at hbl
      obtain ⟨g, hg⟩ : ∃ g, g = lgN l.length := ⟨_, rfl⟩
      rw [← hg] at hfb hyy hlg
      simp only [← hg] at hbl
      have HYY := Lib.hid hyy
      have HPN := Lib.hid hpno
      have HFB := Lib.hid hfb
      have HBL := Lib.hid hbl
      have G1 := K1w.cell
      have F1 := K1w.frozen
      clear hkl hall hfb hyy hpno hl hpl hbl hbe hg
      go_wp2_with fail
      refine (HBL.out wr).mono ?_
      rintro e w5 ⟨rfl, rfl⟩
      go_wp2_with fail
      refine calls_named ?_
      intro V5 hV5
      have K15 : Blk V5 (w.heap.size + 1) 32 #[.int .i64 g, .slice ad l.length c] := by
        rw [hV5]
        have := K1w.set 0 (.int .i64 g)
        simpa using this
      have K05 : Blk V5 w.heap.size 32 #[.int .i64 0, .slice none 0 0] := by rw [hV5]; exact K0w.far (by show w.heap.size ≠ w.heap.size + 1; omega) _
      have o5 : OwnI 3 (w.heap.size + 3) V5 (.slice ad l.length c) l := by rw [hV5]; exact ow.setBelow (by show w.heap.size + 1 < w.heap.size + 3; omega) _
      have B5 : Below w.heap.size w V5 := by rw [hV5]; exact Below.setCell Bw (by show w.heap.size ≤ w.heap.size + 1; omega) _
      clear hV5 G1 F1
      refine (isFunI_any g l _ V5 o5.ints).mono ?_
      rintro e w2 ⟨rfl, b2⟩
      rw [← HFB.out]
      have K02 := K05.keep b2
      have K12 := K15.keep b2
      have o2 := o5.keep b2
      have B2 := B5.after b2 B5.size
      have G0 := K02.cell
      have F0 := K02.frozen
      have G1 := K12.cell
      cases hpb : fdB s with
      | false =>
        have HPB := Lib.hid (HPN.out hpb)
        have HPB2 := Lib.hid hpb
        clear hpb
        go_wp2
        refine post_named ?_
        intro Wf hWf
        have t := box_tail (w := w) (E := 32) (m := 0) (b := .slice none 0 0) K02 (OwnI.nil 3 (w2.heap.size) w2) (Nat.le_refl _) K02.lt B2 hWf
        have GF := t.1.cell
        clear hWf G0 F0 G1
        exact bodyPost_ret (v := .tuple #[.agg #[.int .i64 0, .slice none 0 0], .bool false]) (by simp [results, Tryz.results11, go_sem, GF]) rfl ⟨none, 0, 0, by rw [HPB.out.1, HPB2.out], by rw [HPB.out.2]; exact t.2.1, t.2.2⟩
      | true =>
        have HPB := Lib.hid (HYY.out hpb)
        have HPB2 := Lib.hid hpb
        clear hpb
        go_wp2
        refine post_named ?_
        intro Wf hWf
        have t := box_tail (w := w) (E := 32) (m := g) (b := .slice ad l.length c) K02 o2 (Nat.le_refl _) (by omega) B2 hWf
        have GF := t.1.cell
        clear hWf G0 F0 G1
        exact bodyPost_ret (v := .tuple #[.agg #[.int .i64 g, .slice ad l.length c], .bool true]) (by simp [results, Tryz.results11, go_sem, GF]) rfl ⟨_, _, _, by rw [HPB.out.1, HPB2.out], by rw [HPB.out.2]; exact t.2.1, t.2.2⟩
end Go.Proofs.YtipejodijbjpcaaGreatDoor
end
section
namespace Go.Proofs.YtipejodijbjpcaaGreatDoor
open Go.RowKit Go.G5

theorem allTo_of {p : Nat → Bool} {n : Nat} (h : ∀ k, k < n → p k = true) : allTo p n = true := by
  induction n with
  | zero => rfl
  | succ n ih => exact allTo_succ (ih fun k hk => h k (by omega)) (h n (by omega))

end Go.Proofs.YtipejodijbjpcaaGreatDoor
end
section
namespace Go.Proofs.YtipejodijbjpcaaGreatDoor
open Go.RowKit Go.G5

end Go.Proofs.YtipejodijbjpcaaGreatDoor
end
section
namespace Go.Proofs.YtipejodijbjpcaaGreatDoor
open Go.RowKit Go.G5

/-! a function value that is asked of the numbers of a slice -/
set_option maxHeartbeats 1000000 in
theorem indexFunc_any (l : List Int) (v : Value) (w : World) (hv : Ints w v l) (c : FuncId) (he : ∀ args w, (callFunc c args).run Tryz.prog w = .ok (.enter c args) w) (g : Nat) (P : Int → Bool)
    (hw : ∀ (t : Int) W', t ∈ l → Below w.heap.size w W' → Calls Tryz.prog c #[.int .i64 t, .pointer (some ⟨g, 0, none⟩)] W' fun e w2 => e = .returned (.bool (P t)) ∧ Below W'.heap.size W' w2) :
    Calls Tryz.prog 309 #[v, .func (.func c) #[] #[.pointer (some ⟨g, 0, none⟩)]] w fun e w' => (∃ i : Int, e = .returned (.int .i64 i) ∧ (0 ≤ i ↔ l.any P = true) ∧ -1 ≤ i ∧ i ≤ 9223372036854775807) ∧ Below w.heap.size w w' := by
  obtain ⟨a, b, off, cp, rfl, hlen, hix, hc, hb⟩ := hv.view Tryz.prog 22 3 Tryz.underlying22 intElem
  have HW := Lib.hid hw
  clear hw
  go_enter Tryz.func309, Tryz.ntmps309
  go_wp2_with fail
  go_loopw [8] (fun i wr => ∃ k : Nat, k ≤ l.length ∧ i = .int .i64 k ∧ (l.take k).any P = false ∧ Below w.heap.size w wr) (fun i _ => l.length - (intOf i).toNat)
  case atStart => exact ⟨0, Nat.zero_le _, rfl, by simp, Below.refl _ _⟩
  case round =>
    obtain ⟨k, hk, rfl, hall, B⟩ := hrel
    have H := Lib.hid hall
    clear hall
    by_cases hlt : k < l.length
    · have hck := cells_below hc hb B (Nat.le_refl _) k hlt
      have hcl := HW.out l[k] wr (List.getElem_mem hlt) B
      have htk : (l.take (k + 1)).any P = ((l.take k).any P || P l[k]) := by rw [List.take_succ_eq_append_getElem hlt, List.any_append]; simp
      have HTK := Lib.hid htk
      clear htk
      cases hP : P l[k] with
      | true =>
        have hh : l.any P = true := List.any_eq_true.2 ⟨_, List.getElem_mem hlt, hP⟩
        have HH := Lib.hid hh
        rw [hP] at hcl
        clear hh hP
        go_wp2_with (go_at_fn c; refine hcl.mono ?_; rintro e w2 ⟨rfl, hb2⟩)
        go_ret
        exact ⟨⟨k, rfl, by rw [HH.out]; simp, by omega, by omega⟩, B.after hb2 B.size⟩
      | false =>
        have HP := Lib.hid hP
        rw [hP] at hcl
        clear hP
        go_wp2_with (go_at_fn c; refine hcl.mono ?_; rintro e w2 ⟨rfl, hb2⟩)
        go_roundw
        case rel => exact ⟨k + 1, by omega, by go_num, by rw [HTK.out, H.out, HP.out]; rfl, B.after hb2 B.size⟩
        case measure => simp [intOf]; omega
    · have hh : l.any P = false := by have := H.out; rw [List.take_of_length_le (by omega)] at this; exact this
      have HH := Lib.hid hh
      clear hh
      go_wp2
      go_ret
      exact ⟨⟨-1, rfl, by rw [HH.out]; simp, by omega, by omega⟩, B⟩

theorem containsFunc_any (l : List Int) (v : Value) (w : World) (hv : Ints w v l) (c : FuncId) (he : ∀ args w, (callFunc c args).run Tryz.prog w = .ok (.enter c args) w) (g : Nat) (P : Int → Bool)
    (hw : ∀ (t : Int) W', t ∈ l → Below w.heap.size w W' → Calls Tryz.prog c #[.int .i64 t, .pointer (some ⟨g, 0, none⟩)] W' fun e w2 => e = .returned (.bool (P t)) ∧ Below W'.heap.size W' w2) :
    Calls Tryz.prog 234 #[v, .func (.func c) #[] #[.pointer (some ⟨g, 0, none⟩)]] w fun e w' => e = .returned (.bool (l.any P)) ∧ Below w.heap.size w w' := by
  have hcl := indexFunc_any l v w hv c he g P hw
  clear hw he
  obtain ⟨a, cp, rfl⟩ := hv.shape
  go_enter Tryz.func234, Tryz.ntmps234
  go_wp2_with (go_at_call 309; refine hcl.mono ?_; rintro e w' ⟨⟨i, rfl, hi, hi1, hi2⟩, hb⟩; have HI := Lib.hid hi; clear hi)
  go_ret
  refine ⟨ret_bool ?_, hb⟩
  cases hh : l.any P with
  | true => have := HI.out.2 hh; simpa using this
  | false =>
    have h : ¬ 0 ≤ i := fun h => by rw [HI.out.1 h] at hh; cases hh
    simpa using h

/-! minimal sets -/
def subsB (s t : Int) : Bool := t != s && idif t s == 0
def minL (l : List Int) : List Int := l.filter fun s => !(l.any (subsB s))

theorem minClosure (w : World) (g : Nat) (t s : Int) (d : w.cell? ⟨g, 0, none⟩ = some (.int .i64 s)) (ht : 0 ≤ t ∧ t < 64) (hs : 0 ≤ s ∧ s < 64) :
    Calls Tryz.prog 262 #[.int .i64 t, .pointer (some ⟨g, 0, none⟩)] w fun e w' => e = .returned (.bool (subsB s t)) ∧ Below w.heap.size w w' := by
  have hN := idif_is ht.1 ht.2 hs.1 hs.2
  cases h : (t != s) with
  | false =>
    have hx : subsB s t = false := by unfold subsB; rw [h]; rfl
    have HX := Lib.hid hx
    clear hx
    go_enter Tryz.func262, Tryz.ntmps262
    go_wp2
    go_ret
    exact ⟨ret_bool HX.out.symm, Below.refl _ _⟩
  | true =>
    have hx : subsB s t = (idif t s == 0) := by unfold subsB; rw [h]; rfl
    have HX := Lib.hid hx
    clear hx
    go_enter Tryz.func262, Tryz.ntmps262
    go_wp2
    go_ret
    exact ⟨ret_bool HX.out.symm, Below.refl _ _⟩
theorem minClosure_enters : ∀ args w, (callFunc 262 args).run Tryz.prog w = .ok (.enter 262 args) w := enters_of Tryz.func262 (by kernel_rfl) rfl

set_option maxHeartbeats 1000000 in
set_option maxRecDepth 100000 in
theorem minimalOf_any (l : List Int) (v : Value) (w : World) (hv : Ints w v l) (hm : ∀ x ∈ l, 0 ≤ x ∧ x < 64) (hl : l.length ≤ 1048576) :
    Calls Tryz.prog 152 #[v] w fun e w' => ∃ ad i cp, e = .returned (.slice ad i cp) ∧ OwnI 3 w.heap.size w' (.slice ad i cp) (minL l) ∧ Below w.heap.size w w' := by
  obtain ⟨a, b, off, c, rfl, hlen, hix, hc, hb⟩ := hv.view Tryz.prog 22 3 Tryz.underlying22 intElem
  have HM := Lib.hid hm
  clear hm
  obtain ⟨F, hF⟩ : ∃ F : Int → Bool, F = fun s => !(l.any (subsB s)) := ⟨_, rfl⟩
  have hmin : minL l = l.filter F := by rw [hF]; rfl
  rw [hmin]
  have HF := Lib.hid hF
  clear hmin hF
  go_enter Tryz.func152, Tryz.ntmps152
  go_wp2_with fail
  go_loopw [3, 9] (fun out i wr => ∃ (k : Nat) (ad : Option Addr) (nn cp : Nat), k ≤ l.length ∧ out = .slice ad nn cp ∧ i = .int .i64 k ∧ OwnI 3 w.heap.size wr (.slice ad nn cp) ((l.take k).filter F) ∧ Below w.heap.size w wr)
    (fun _ i _ => l.length - (intOf i).toNat)
  case atStart => exact ⟨0, none, 0, 0, Nat.zero_le _, rfl, rfl, OwnI.nil _ _ _, Below.refl _ _⟩
  case round =>
    obtain ⟨k, ad, nn, cp, hk, rfl, rfl, ho, B⟩ := hrel
    have HO := Lib.hid ho
    clear ho
    by_cases hlt : k < l.length
    · have hck := cells_below hc hb B (Nat.le_refl _) k hlt
      have hlk := HM.out _ (List.getElem_mem hlt)
      have htk : (l.take (k + 1)).filter F = (l.take k).filter F ++ (if F l[k] = true then [l[k]] else []) := by
        rw [List.take_succ_eq_append_getElem hlt, List.filter_append, List.filter_cons, List.filter_nil]
      have hFk : F l[k] = !(l.any (subsB l[k])) := by rw [HF.out]
      have hfl : ((l.take k).filter F).length ≤ 1048576 := Nat.le_trans (List.length_filter_le _ _) (by simp; omega)
      obtain ⟨s, hs⟩ : ∃ s, s = l[k] := ⟨_, rfl⟩
      rw [← hs] at hck hlk htk hFk
      have hcf : ∀ W, Ints W (.slice a l.length c) l → W.cell? ⟨wr.heap.size, 0, none⟩ = some (.int .i64 s) → Calls Tryz.prog 234 #[.slice a l.length c, .func (.func 262) #[] #[.pointer (some ⟨wr.heap.size, 0, none⟩)]] W fun e w' => e = .returned (.bool (l.any (subsB s))) ∧ Below W.heap.size W w' :=
        fun W hW hd => containsFunc_any l _ W hW 262 minClosure_enters wr.heap.size (subsB s) (fun t W' ht hB => minClosure W' wr.heap.size t s (keep hB hd) (HM.out t ht) hlk)
      have HCF := Lib.hid hcf
      have HTK := Lib.hid htk
      have hs0 := hlk.1
      have hs1 := hlk.2
      clear hs htk hcf hlk
      cases hany : l.any (subsB s) with
      | true =>
        have hf : F s = false := by rw [hFk, hany]; rfl
        have HFS := Lib.hid hf
        have HA := Lib.hid hany
        clear hf hany hFk
        go_wp2_with (go_at_call 234; refine (HCF.out _ (hv.below (B.alloc B.size _) (Nat.le_refl _)) (cell_new _ _ _ _ _ rfl)).mono ?_; rintro e w4 ⟨rfl, hb4⟩; rw [HA.out])
        have b4 : Below wr.heap.size wr w4 := (bl1 wr (.cells #[.int .i64 s] 3)).after hb4 (by simp)
        go_roundw
        case rel => exact ⟨k + 1, ad, nn, cp, by omega, rfl, by go_num, by rw [HTK.out, HFS.out]; simpa using HO.out.keep b4, B.after b4 B.size⟩
        case measure => simp [intOf]; omega
      | false =>
        have hf : F s = true := by rw [hFk, hany]; rfl
        have HFS := Lib.hid hf
        have HA := Lib.hid hany
        clear hf hany hFk
        go_wp2_with (first
          | (go_at_call 234; refine (HCF.out _ (hv.below (B.alloc B.size _) (Nat.le_refl _)) (cell_new _ _ _ _ _ rfl)).mono ?_; rintro e w4 ⟨rfl, hb4⟩; rw [HA.out]; have d4 := keep hb4 (cell_new wr #[.int .i64 s] 3 0 _ rfl); have b4 : Below wr.heap.size wr w4 := (bl1 wr (.cells #[.int .i64 s] 3)).after hb4 (by simp); have o4 := HO.out.keep b4; have B4 := B.after b4 B.size; have z4 := B4.size)
          | (at_builtin; refine wpList_appendI rfl _ _ _ rfl 3 Tryz.underlying22 intElem w.heap.size _ _ s w4.heap.size rfl rfl (by simp) (o4.alloc _) ⟨by omega, by omega⟩ (by omega) (by simp; omega) ?_; intro v' w6 hown hgr; obtain ⟨av, nv, cv, rfl⟩ := hown.shape3))
        have r4 := o4.lt
        have B6 : Below w.heap.size w w6 := (B4.alloc B4.size (.cells #[.int .i64 s] 3)).grown hgr (by simp; omega) (fun q hq => (r4 q hq).1)
        go_roundw
        case rel => exact ⟨k + 1, av, nv, cv, by omega, rfl, by go_num, by rw [HTK.out, HFS.out]; exact hown, B6⟩
        case measure => simp [intOf]; omega
    · have hkl : (l.take k).filter F = l.filter F := by rw [List.take_of_length_le (by omega)]
      have HK := Lib.hid hkl
      clear hkl
      go_wp2
      go_ret
      exact ⟨ad, nn, cp, rfl, by rw [← HK.out]; exact HO.out, B⟩

/-- the two ways to say it agree where no set stands twice -/
theorem allTo_iff {p : Nat → Bool} {n : Nat} : allTo p n = true ↔ ∀ k, k < n → p k = true := by
  constructor
  · intro h k hk
    cases hp : p k with
    | true => rfl
    | false => rw [allTo_false hk hp] at h; cases h
  · exact allTo_of
end Go.Proofs.YtipejodijbjpcaaGreatDoor
end
section
namespace Go.Proofs.YtipejodijbjpcaaGreatDoor
open Go.RowKit Go.G5

theorem mem_chosenB (P : Nat → Bool) (n : Nat) (x : Int) : x ∈ chosen P n ↔ ∃ k : Nat, k < n ∧ P k = true ∧ x = (k : Int) := by
  unfold chosen
  rw [List.mem_map]
  constructor
  · rintro ⟨k, hk, rfl⟩
    rw [List.mem_filter, List.mem_range] at hk
    exact ⟨k, hk.1, hk.2, rfl⟩
  · rintro ⟨k, h1, h2, rfl⟩
    exact ⟨k, by rw [List.mem_filter, List.mem_range]; exact ⟨h1, h2⟩, rfl⟩
end Go.Proofs.YtipejodijbjpcaaGreatDoor
end
section
namespace Go.Proofs.YtipejodijbjpcaaGreatDoor
open Go.RowKit Go.G5

end Go.Proofs.YtipejodijbjpcaaGreatDoor
end
section
namespace Go.Proofs.YtipejodijbjpcaaGreatDoor
open Go.RowKit Go.G5

end Go.Proofs.YtipejodijbjpcaaGreatDoor
end
section
namespace Go.Proofs.YtipejodijbjpcaaGreatDoor
open Go.RowKit Go.G5

theorem pow_six (e : Nat) (h : e < 6) : 0 < (2 : Int) ^ e ∧ (2 : Int) ^ e < 64 := by
  rcases (show e = 0 ∨ e = 1 ∨ e = 2 ∨ e = 3 ∨ e = 4 ∨ e = 5 by omega) with rfl | rfl | rfl | rfl | rfl | rfl <;> decide
end Go.Proofs.YtipejodijbjpcaaGreatDoor
end
