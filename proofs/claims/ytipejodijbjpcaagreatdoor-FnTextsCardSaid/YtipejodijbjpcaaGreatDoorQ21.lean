/- Functions that are read: the second program. -/
import Derived.Test.YtipejodijbjpcaaGreatDoorQ20
section
namespace Go.Proofs.YtipejodijbjpcaaGreatDoor
open Go.RowKit Go.G5

set_option maxHeartbeats 4000000 in
set_option maxRecDepth 100000 in
theorem pfunS_any (s : ByteArray) (w : World) (hs : s.size ≤ 2000000) :
    Calls Tryz.prog 12 #[.string s] w fun e w' => ∃ ad i c, e = .returned (.tuple #[.agg #[.int .i64 (fdN s), .slice ad i c], .bool (fdB s)]) ∧ OwnI 3 w.heap.size w' (.slice ad i c) (fdL s) ∧ Below w.heap.size w w' := by
  obtain ⟨V, hV⟩ : ∃ V, V = (w.alloc (.cells #[.int .i64 0, .slice none 0 0] 32)).alloc (.cells #[] 3) := ⟨_, rfl⟩
  have K0V : Blk V w.heap.size 32 #[.int .i64 0, .slice none 0 0] := by rw [hV]; exact (Blk.new _ _ _).alloc _
  have BV : Below w.heap.size w V := by rw [hV]; exact bl2 _ _ _
  have hzV : w.heap.size + 2 ≤ V.heap.size := by rw [hV]; simp
  have o0 : OwnI 3 (w.heap.size + 1) V (.slice (some ⟨w.heap.size + 1, 0, none⟩) 0 0) [] := by
    rw [hV]
    have := OwnI.lit0 (E := 3) (B := w.heap.size + 1) (w.alloc (.cells #[.int .i64 0, .slice none 0 0] 32)) (by simp)
    simpa using this
  by_cases h200 : s.size ≤ 200
  rotate_left
  · have hgt : ¬ (s.size : Int) ≤ 200 := by omega
    have hfd := fd_long h200
    have h0 : (0 : Int) ≤ (s.size : Int) := by omega
    obtain ⟨l, hl⟩ : ∃ l : List Int, l = [] := ⟨_, rfl⟩
    have hfn : (∀ n : Nat, n < 6 → l.length ≠ 2 ^ n) → fdB s = false := fun _ => hfd
    have hyy : fdB s = true → fdN s = lgN l.length ∧ fdL s = l := fun h => by rw [hfd] at h; cases h
    have hfb : ∀ m : Nat, lgN l.length = (m : Int) → fdB s = isFunB (m : Int) l := by
      intro m h
      rw [hl] at h
      have e : lgN ([] : List Int).length = -1 := by decide +kernel
      rw [e] at h
      omega
    have HFN := Lib.hid hfn
    have HYY := Lib.hid hyy
    have HFB := Lib.hid hfb
    clear hfn hyy hfb hfd
    go_enter Tryz.func12, Tryz.ntmps12
    go_upto_region 2 with fail
    rw [← hV]
    clear hV
    go_wp2_with fail
    go_loopw [4, 5, 6] (fun vv _ iv wr => iv = .int .i64 0 ∧ vv = .slice (some ⟨w.heap.size + 1, 0, none⟩) 0 0 ∧ wr = V) (fun _ _ _ _ => 0)
    case atStart => exact ⟨rfl, rfl, rfl⟩
    case round =>
      obtain ⟨rfl, rfl, rfl⟩ := hrel
      obtain ⟨ad, c, hsv, ow⟩ : ∃ ad c, (.slice (some ⟨w.heap.size + 1, 0, none⟩) 0 0 : Value) = .slice ad l.length c ∧ OwnI 3 (w.heap.size + 1) wr (.slice ad l.length c) l := ⟨some ⟨w.heap.size + 1, 0, none⟩, 0, by rw [hl]; rfl, by rw [hl]; exact o0⟩
      rw [hsv]
      have hll : l.length ≤ 201 := by rw [hl]; simp
      have Bw := BV
      have K0w := K0V
      clear hl o0 hsv
      go_wp2_with fail
      go_loopw [9] (fun nv wq => ∃ m : Nat, m ≤ 6 ∧ nv = .int .i64 m ∧ (∀ q : Nat, q < m → l.length ≠ 2 ^ q) ∧ wq = wr) (fun nv _ => 6 - (intOf nv).toNat)
      case atStart => exact ⟨0, by omega, rfl, fun q hq => absurd hq (by omega), rfl⟩
      case round =>
        obtain ⟨m, hm6, rfl, hno, rfl⟩ := hrel
        have HNO := Lib.hid hno
        clear hno
        by_cases hlt : m < 6
        · have hle : (m : Int) ≤ 5 := by omega
          have hpw := pow_six m hlt
          have hpw1 := hpw.1
          have hpw2 := hpw.2
          have hcast : ((2 : Int) ^ m) = ((2 ^ m : Nat) : Int) := by simp
          have HCA := Lib.hid hcast
          clear hpw hcast
          by_cases he : l.length = 2 ^ m
          · have he1 : ((l.length : Int) == (2 : Int) ^ m) = true := by rw [beq_iff_eq, HCA.out]; omega
            have hfb := HFB.out m (by rw [he]; exact lgN_pow m hlt)
            have hmd := fun hf => l2Made_any wr (m : Int) ad l.length c l ow.ints hf
            have HE := Lib.hid he
            have HMD := Lib.hid hmd
            have hwrap : IntKind.i64.wrap ((2 : Int) ^ m) = 2 ^ m := by rw [IntKind.wrap_i64]; omega
            cases hpb : isFunB (m : Int) l with
            | false =>
              have hpd := hfb.trans hpb
              have HPB := Lib.hid (And.intro hpd (fd_no hpd))
              have HPB2 := Lib.hid hpb
              clear hpb hpd hfb he
              go_wp2_with fail
              refine (HMD.out false HPB2.out).mono ?_
              rintro e w2 ⟨a2, i2, c2, rfl, hsv, b2⟩
              rw [if_neg (by simp)] at hsv
              rw [if_neg (by simp)]
              injection hsv with x1 x2 x3
              subst x1 x2 x3
              have K02 := K0w.keep b2
              have B2 := Bw.after b2 Bw.size
              have K03 := K02.alloc (.cells #[.int .i64 0, .slice none 0 0] 32)
              have B3 := B2.alloc B2.size (.cells #[.int .i64 0, .slice none 0 0] 32)
              have K13 := Blk.new w2 32 #[.int .i64 0, .slice none 0 0]
              have G := K02.cell
              have F := K02.frozen
              have z2 := K02.lt
              go_upto_region 18 with fail
              obtain ⟨W3, hW3⟩ : ∃ W, W = w2.alloc (.cells #[.int .i64 0, .slice none 0 0] 32) := ⟨_, rfl⟩
              rw [← hW3] at K03 B3 K13 ⊢
              clear hW3 G F
              have G := K03.cell
              have F := K03.frozen
              have G1 := K13.cell
              go_wp2
              refine post_named ?_
              intro Wf hWf
              have t := box_tail (w := w) (E := 32) (m := 0) (b := .slice none 0 0) K03 (OwnI.nil 3 (W3.heap.size) W3) (Nat.le_refl _) K03.lt B3 hWf
              have GF := t.1.cell
              clear hWf G F G1
              exact bodyPost_ret (v := .tuple #[.agg #[.int .i64 0, .slice none 0 0], .bool false]) (by simp [results, Tryz.results12, go_sem, GF]) rfl ⟨none, 0, 0, by rw [HPB.out.1, HPB.out.2.1], by rw [HPB.out.2.2]; exact t.2.1, t.2.2⟩
            | true =>
              have hpd := hfb.trans hpb
              have hyy := HYY.out hpd
              rw [he, lgN_pow m hlt] at hyy
              have HPB := Lib.hid (And.intro hpd hyy)
              have HPB2 := Lib.hid hpb
              clear hpb hpd hfb he hyy
              go_wp2_with fail
              refine (HMD.out true HPB2.out).mono ?_
              rintro e w2 ⟨a2, i2, c2, rfl, hsv, b2⟩
              rw [if_pos rfl] at hsv
              rw [if_pos rfl]
              injection hsv with x1 x2 x3
              subst x1 x2 x3
              have K02 := K0w.keep b2
              have B2 := Bw.after b2 Bw.size
              have o2 := ow.keep b2
              have o3 := o2.alloc (.cells #[.int .i64 (m : Int), .slice a2 l.length c2] 32)
              have K03 := K02.alloc (.cells #[.int .i64 (m : Int), .slice a2 l.length c2] 32)
              have B3 := B2.alloc B2.size (.cells #[.int .i64 (m : Int), .slice a2 l.length c2] 32)
              have K13 := Blk.new w2 32 #[.int .i64 (m : Int), .slice a2 l.length c2]
              have G := K02.cell
              have F := K02.frozen
              have z2 := K02.lt
              go_upto_region 18 with fail
              obtain ⟨W3, hW3⟩ : ∃ W, W = w2.alloc (.cells #[.int .i64 (m : Int), .slice a2 l.length c2] 32) := ⟨_, rfl⟩
              rw [← hW3] at K03 B3 K13 o3 ⊢
              clear hW3 G F
              have G := K03.cell
              have F := K03.frozen
              have G1 := K13.cell
              go_wp2
              refine post_named ?_
              intro Wf hWf
              have t := box_tail (w := w) (E := 32) (m := (m : Int)) (b := .slice a2 l.length c2) K03 o3 (Nat.le_refl _) (by omega) B3 hWf
              have GF := t.1.cell
              clear hWf G F G1
              exact bodyPost_ret (v := .tuple #[.agg #[.int .i64 (m : Int), .slice a2 l.length c2], .bool true]) (by simp [results, Tryz.results12, go_sem, GF]) rfl ⟨_, _, _, by rw [HPB.out.1, HPB.out.2.1], by rw [HPB.out.2.2]; exact t.2.1, t.2.2⟩
          · have he1 : ((l.length : Int) == (2 : Int) ^ m) = false := by rw [beq_eq_false_iff_ne, HCA.out]; omega
            have HE := Lib.hid he
            have hwrap : IntKind.i64.wrap ((2 : Int) ^ m) = 2 ^ m := by rw [IntKind.wrap_i64]; omega
            clear he
            go_wp2
            go_roundw
            case rel =>
              refine ⟨m + 1, by omega, by go_num, fun q hq => ?_, by first | rfl | trivial⟩
              by_cases h : q = m
              · rw [h]; exact HE.out
              · exact HNO.out q (by omega)
            case measure => simp [intOf]; omega
        · have hle : ¬ (m : Int) ≤ 5 := by omega
          have hpn := HFN.out (fun q hq => HNO.out q (by omega))
          have HPB := Lib.hid (And.intro hpn (fd_no hpn))
          have G := K0w.cell
          have F := K0w.frozen
          clear hpn
          go_wp2
          refine post_named ?_
          intro Wf hWf
          have t := box_tail (w := w) (E := 32) (m := 0) (b := .slice none 0 0) K0w (OwnI.nil 3 (wr.heap.size) wr) (Nat.le_refl _) K0w.lt Bw hWf
          have GF := t.1.cell
          clear hWf G F
          exact bodyPost_ret (v := .tuple #[.agg #[.int .i64 0, .slice none 0 0], .bool false]) (by simp [results, Tryz.results12, go_sem, GF]) rfl ⟨none, 0, 0, by rw [HPB.out.1, HPB.out.2.1], by rw [HPB.out.2.2]; exact t.2.1, t.2.2⟩
  have hgt : (s.size : Int) ≤ 200 := by omega
  have hbad : (cutB 44 s).all pB = false → (cutB 44 s).all pB = false := id
  have hfin := fun h => fd_fin h200 h
  have hfno := fun h hn => fd_none h200 h hn
  have hyes := fd_yes (s := s)
  have hlen := cutB_len 44 s
  have hpart := cutB_part 44 s
  have hca := cutAt_0 44 s
  obtain ⟨ps, hps⟩ : ∃ ps, ps = cutB 44 s := ⟨_, rfl⟩
  rw [← hps] at hfin hfno hyes hlen hpart hca hbad
  have HPS : Hid (ps.all pB = false → (cutB 44 s).all pB = false) := Lib.hid (by rw [← hps]; exact id)
  have HFIN := Lib.hid hfin
  have HFNO := Lib.hid hfno
  have HYES := Lib.hid hyes
  have HPART := Lib.hid hpart
  have HCA := Lib.hid hca
  clear hfin hfno hyes hpart hca hps hbad
  go_enter Tryz.func12, Tryz.ntmps12
  go_upto_region 2 with fail
  rw [← hV]
  clear hV
  go_wp2_with fail
  go_loopw [4, 5, 6] (fun vv pv iv wr => ∃ (j k : Nat) (P : ByteArray) (ad : Option Addr) (i c : Nat), iv = .int .i64 k ∧ pv = .string P ∧ vv = .slice ad i c ∧ (ps.take j).all pB = true ∧ (CutAt 44 s ps j P k ∨ (k = s.size + 1 ∧ j = ps.length)) ∧ Below w.heap.size w wr ∧ w.heap.size + 2 ≤ wr.heap.size ∧ Blk wr w.heap.size 32 #[.int .i64 0, .slice none 0 0] ∧ OwnI 3 (w.heap.size + 1) wr (.slice ad i c) ((ps.take j).map pN)) (fun _ _ iv _ => s.size + 1 - (intOf iv).toNat)
  case atStart => exact ⟨0, 0, ByteArray.empty, _, _, _, rfl, rfl, rfl, rfl, .inl HCA.out, BV, hzV, K0V, o0⟩
  case round =>
    obtain ⟨j, k, P, ad, i, c, rfl, rfl, rfl, hall, hst, Bw, zw, K0w, ow⟩ := hrel
    have HALL := Lib.hid hall
    clear hall HCA BV K0V o0 hzV
    rcases hst with hst | ⟨hk1, hj1⟩
    · have hks := hst.2.1
      have hPk := hst.2.2
      have hle : (k : Int) ≤ (s.size : Int) := by omega
      have hjl := cutAt_j hst
      by_cases hlt : k < s.size
      · have hlt2 : (k : Int) < (s.size : Int) := by omega
        by_cases hc : s[k] = 44
        · have hcb : ((s[k].toNat : Int) != 44) = false := byte_eq hc
          have hend := cutAt_end hst hlt hc
          have hend : j < ps.length ∧ ps.getD j ByteArray.empty = P ∧ (CutAt 44 s ps (j + 1) ByteArray.empty (k + 1) ∨ (k + 1 = s.size + 1 ∧ j + 1 = ps.length)) := ⟨hend.1, hend.2.1, .inl hend.2.2⟩
          clear hst hc hjl
          obtain ⟨hj2, hg, HNX⟩ := hend
          have hsz := HPART.out _ (List.getElem_mem hj2)
          have hgp : ps[j] = P := by rw [← getD_b ps j hj2]; exact hg
          rw [hgp] at hsz
          have htk : (ps.take (j + 1)).all pB = pB P := by rw [List.take_succ_eq_append_getElem hj2, List.all_append, HALL.out, hgp]; simp
          have hfls := all_false_b pB ps j hj2
          have hsn := snoc_pN ps j hj2
          rw [hgp] at hfls hsn
          have hpi := parseS_any P wr (by omega)
          obtain ⟨y, hy⟩ : ∃ y, y = pN P := ⟨_, rfl⟩
          rw [← hy] at hsn
          have hyr : pB P = true → InR y ∧ pV P = y := fun h => by
            have h3 := pB_is h
            rw [← hy] at h3
            exact ⟨⟨by omega, by omega⟩, by rw [hy]; exact pV_yes h⟩
          have hll : ((ps.take j).map pN).length ≤ 2000001 := by rw [List.length_map, List.length_take]; omega
          obtain ⟨l, hl⟩ : ∃ l, l = (ps.take j).map pN := ⟨_, rfl⟩
          rw [← hl] at ow hsn hll
          have HTK := Lib.hid htk
          have HFLS := Lib.hid hfls
          have HSN := Lib.hid hsn
          have HNXT := Lib.hid HNX
          clear htk hfls hsn hy hl hg hgp HNX
          cases hpb : pB P with
          | false =>
            rw [hpb, pV_no hpb] at hpi
            have hpn := fd_bad (HPS.out (HFLS.out hpb))
            have HPB := Lib.hid (And.intro hpn (fd_no hpn))
            have HPI := Lib.hid hpi
            clear hpi hpb hpn hyr
            go_wp2_with fail
            refine HPI.out.mono ?_
            rintro e w2 ⟨rfl, b2⟩
            have K02 := K0w.keep b2
            have B2 := Bw.after b2 Bw.size
            have G := K02.cell
            have F := K02.frozen
            go_wp2
            refine post_named ?_
            intro Wf hWf
            have t := box_tail (w := w) (E := 32) (m := 0) (b := .slice none 0 0) K02 (OwnI.nil 3 (w2.heap.size) w2) (Nat.le_refl _) K02.lt B2 hWf
            have GF := t.1.cell
            clear hWf G F
            exact bodyPost_ret (v := .tuple #[.agg #[.int .i64 0, .slice none 0 0], .bool false]) (by simp [results, Tryz.results12, go_sem, GF]) rfl ⟨none, 0, 0, by rw [HPB.out.1, HPB.out.2.1], by rw [HPB.out.2.2]; exact t.2.1, t.2.2⟩
          | true =>
            obtain ⟨hyr, hpv⟩ := hyr hpb
            rw [hpb, hpv] at hpi
            have htk := HTK.out
            rw [hpb] at htk
            have HTK1 := Lib.hid htk
            have HPI := Lib.hid hpi
            clear hpi hpb htk hpv
            go_wp2_with fail
            refine HPI.out.mono ?_
            rintro e w2 ⟨rfl, b2⟩
            have K02 := K0w.keep b2
            have o2 := ow.keep b2
            have B2 := Bw.after b2 Bw.size
            have z2 := b2.size
            have hlt3 := o2.lt
            clear Bw K0w ow b2
            go_wp2_with (at_builtin; refine wpList_appendI rfl _ _ _ rfl 3 Tryz.underlying22 intElem (w.heap.size + 1) _ l y w2.heap.size rfl rfl (cell_new _ _ _ _ _ rfl) (o2.alloc _) hyr (by omega) (by simp; omega) ?_; intro v7 w7 o7 g7; obtain ⟨p7, i7, q7, rfl⟩ := o7.shape3)
            have K07 := (K02.alloc (.cells #[.int .i64 y] 3)).grow g7 (by intro e; have := (hlt3 _ e).1; omega)
            have B7 : Below w.heap.size w w7 := (B2.alloc B2.size (.cells #[.int .i64 y] 3)).grown g7 (by have := B2.size; simp; omega) (fun q hq => by have := (hlt3 q hq).1; omega)
            have z7 := g7.size
            simp at z7
            go_roundw
            case rel => exact ⟨j + 1, k + 1, _, p7, i7, q7, by go_num, rfl, rfl, HTK1.out, HNXT.out, B7, by omega, K07, by rw [HSN.out]; exact o7⟩
            case measure => simp [intOf]; omega
        · have hcb : ((s[k].toNat : Int) != 44) = true := byte_ne hc
          have hnx := cutAt_next hst hlt hc
          have hz := one_size P s k hlt
          have HNX := Lib.hid hnx
          have hz2 : P.size + 1 ≤ s.size := by omega
          clear hst hc hnx hjl hz
          go_wp2
          go_roundw
          case rel => exact ⟨j, k + 1, _, ad, i, c, by go_num, rfl, rfl, HALL.out, .inl HNX.out, Bw, zw, K0w, ow⟩
          case measure => simp [intOf]; omega
      · have hlt2 : ¬ (k : Int) < (s.size : Int) := by omega
        have hend := cutAt_fin hst hlt
        have hend : j < ps.length ∧ ps.getD j ByteArray.empty = P ∧ (CutAt 44 s ps (j + 1) ByteArray.empty (k + 1) ∨ (k + 1 = s.size + 1 ∧ j + 1 = ps.length)) := ⟨hend.1, hend.2.1, .inr ⟨by omega, hend.2.2⟩⟩
        clear hst hjl
        obtain ⟨hj2, hg, HNX⟩ := hend
        have hsz := HPART.out _ (List.getElem_mem hj2)
        have hgp : ps[j] = P := by rw [← getD_b ps j hj2]; exact hg
        rw [hgp] at hsz
        have htk : (ps.take (j + 1)).all pB = pB P := by rw [List.take_succ_eq_append_getElem hj2, List.all_append, HALL.out, hgp]; simp
        have hfls := all_false_b pB ps j hj2
        have hsn := snoc_pN ps j hj2
        rw [hgp] at hfls hsn
        have hpi := parseS_any P wr (by omega)
        obtain ⟨y, hy⟩ : ∃ y, y = pN P := ⟨_, rfl⟩
        rw [← hy] at hsn
        have hyr : pB P = true → InR y ∧ pV P = y := fun h => by
          have h3 := pB_is h
          rw [← hy] at h3
          exact ⟨⟨by omega, by omega⟩, by rw [hy]; exact pV_yes h⟩
        have hll : ((ps.take j).map pN).length ≤ 2000001 := by rw [List.length_map, List.length_take]; omega
        obtain ⟨l, hl⟩ : ∃ l, l = (ps.take j).map pN := ⟨_, rfl⟩
        rw [← hl] at ow hsn hll
        have HTK := Lib.hid htk
        have HFLS := Lib.hid hfls
        have HSN := Lib.hid hsn
        have HNXT := Lib.hid HNX
        clear htk hfls hsn hy hl hg hgp HNX
        cases hpb : pB P with
        | false =>
          rw [hpb, pV_no hpb] at hpi
          have hpn := fd_bad (HPS.out (HFLS.out hpb))
          have HPB := Lib.hid (And.intro hpn (fd_no hpn))
          have HPI := Lib.hid hpi
          clear hpi hpb hpn hyr
          go_wp2_with fail
          refine HPI.out.mono ?_
          rintro e w2 ⟨rfl, b2⟩
          have K02 := K0w.keep b2
          have B2 := Bw.after b2 Bw.size
          have G := K02.cell
          have F := K02.frozen
          go_wp2
          refine post_named ?_
          intro Wf hWf
          have t := box_tail (w := w) (E := 32) (m := 0) (b := .slice none 0 0) K02 (OwnI.nil 3 (w2.heap.size) w2) (Nat.le_refl _) K02.lt B2 hWf
          have GF := t.1.cell
          clear hWf G F
          exact bodyPost_ret (v := .tuple #[.agg #[.int .i64 0, .slice none 0 0], .bool false]) (by simp [results, Tryz.results12, go_sem, GF]) rfl ⟨none, 0, 0, by rw [HPB.out.1, HPB.out.2.1], by rw [HPB.out.2.2]; exact t.2.1, t.2.2⟩
        | true =>
          obtain ⟨hyr, hpv⟩ := hyr hpb
          rw [hpb, hpv] at hpi
          have htk := HTK.out
          rw [hpb] at htk
          have HTK1 := Lib.hid htk
          have HPI := Lib.hid hpi
          clear hpi hpb htk hpv
          go_wp2_with fail
          refine HPI.out.mono ?_
          rintro e w2 ⟨rfl, b2⟩
          have K02 := K0w.keep b2
          have o2 := ow.keep b2
          have B2 := Bw.after b2 Bw.size
          have z2 := b2.size
          have hlt3 := o2.lt
          clear Bw K0w ow b2
          go_wp2_with (at_builtin; refine wpList_appendI rfl _ _ _ rfl 3 Tryz.underlying22 intElem (w.heap.size + 1) _ l y w2.heap.size rfl rfl (cell_new _ _ _ _ _ rfl) (o2.alloc _) hyr (by omega) (by simp; omega) ?_; intro v7 w7 o7 g7; obtain ⟨p7, i7, q7, rfl⟩ := o7.shape3)
          have K07 := (K02.alloc (.cells #[.int .i64 y] 3)).grow g7 (by intro e; have := (hlt3 _ e).1; omega)
          have B7 : Below w.heap.size w w7 := (B2.alloc B2.size (.cells #[.int .i64 y] 3)).grown g7 (by have := B2.size; simp; omega) (fun q hq => by have := (hlt3 q hq).1; omega)
          have z7 := g7.size
          simp at z7
          go_roundw
          case rel => exact ⟨j + 1, k + 1, _, p7, i7, q7, by go_num, rfl, rfl, HTK1.out, HNXT.out, B7, by omega, K07, by rw [HSN.out]; exact o7⟩
          case measure => simp [intOf]; omega
    · have hle : ¬ (k : Int) ≤ (s.size : Int) := by omega
      have hall := HALL.out
      rw [hj1, List.take_length] at hall ow
      have hfin := HFIN.out hall
      have hyy := HYES.out
      have hfn := HFNO.out hall
      have hll : (ps.map pN).length ≤ 201 := by rw [List.length_map]; omega
      obtain ⟨l, hl⟩ : ∃ l, l = ps.map pN := ⟨_, rfl⟩
      have hpl : ps.length = l.length := by rw [hl, List.length_map]
      rw [← hl, hpl] at hfin hyy
      rw [hpl] at hfn
      rw [← hl] at ow hll
      have hfb : ∀ m : Nat, lgN l.length = (m : Int) → fdB s = isFunB (m : Int) l := by
        intro m h
        rw [← h]; exact hfin
      have hic := ow.ints.capLe.1
      subst hic
      have HFN := Lib.hid hfn
      have HYY := Lib.hid hyy
      have HFB := Lib.hid hfb
      clear hk1 hj1 hall hl hfin hyy hfn hpl hfb
      go_wp2_with fail
      go_loopw [9] (fun nv wq => ∃ m : Nat, m ≤ 6 ∧ nv = .int .i64 m ∧ (∀ q : Nat, q < m → l.length ≠ 2 ^ q) ∧ wq = wr) (fun nv _ => 6 - (intOf nv).toNat)
      case atStart => exact ⟨0, by omega, rfl, fun q hq => absurd hq (by omega), rfl⟩
      case round =>
        obtain ⟨m, hm6, rfl, hno, rfl⟩ := hrel
        have HNO := Lib.hid hno
        clear hno
        by_cases hlt : m < 6
        · have hle : (m : Int) ≤ 5 := by omega
          have hpw := pow_six m hlt
          have hpw1 := hpw.1
          have hpw2 := hpw.2
          have hcast : ((2 : Int) ^ m) = ((2 ^ m : Nat) : Int) := by simp
          have HCA := Lib.hid hcast
          clear hpw hcast
          by_cases he : l.length = 2 ^ m
          · have he1 : ((l.length : Int) == (2 : Int) ^ m) = true := by rw [beq_iff_eq, HCA.out]; omega
            have hfb := HFB.out m (by rw [he]; exact lgN_pow m hlt)
            have hmd := fun hf => l2Made_any wr (m : Int) ad l.length c l ow.ints hf
            have HE := Lib.hid he
            have HMD := Lib.hid hmd
            have hwrap : IntKind.i64.wrap ((2 : Int) ^ m) = 2 ^ m := by rw [IntKind.wrap_i64]; omega
            cases hpb : isFunB (m : Int) l with
            | false =>
              have hpd := hfb.trans hpb
              have HPB := Lib.hid (And.intro hpd (fd_no hpd))
              have HPB2 := Lib.hid hpb
              clear hpb hpd hfb he
              go_wp2_with fail
              refine (HMD.out false HPB2.out).mono ?_
              rintro e w2 ⟨a2, i2, c2, rfl, hsv, b2⟩
              rw [if_neg (by simp)] at hsv
              rw [if_neg (by simp)]
              injection hsv with x1 x2 x3
              subst x1 x2 x3
              have K02 := K0w.keep b2
              have B2 := Bw.after b2 Bw.size
              have K03 := K02.alloc (.cells #[.int .i64 0, .slice none 0 0] 32)
              have B3 := B2.alloc B2.size (.cells #[.int .i64 0, .slice none 0 0] 32)
              have K13 := Blk.new w2 32 #[.int .i64 0, .slice none 0 0]
              have G := K02.cell
              have F := K02.frozen
              have z2 := K02.lt
              go_upto_region 18 with fail
              obtain ⟨W3, hW3⟩ : ∃ W, W = w2.alloc (.cells #[.int .i64 0, .slice none 0 0] 32) := ⟨_, rfl⟩
              rw [← hW3] at K03 B3 K13 ⊢
              clear hW3 G F
              have G := K03.cell
              have F := K03.frozen
              have G1 := K13.cell
              go_wp2
              refine post_named ?_
              intro Wf hWf
              have t := box_tail (w := w) (E := 32) (m := 0) (b := .slice none 0 0) K03 (OwnI.nil 3 (W3.heap.size) W3) (Nat.le_refl _) K03.lt B3 hWf
              have GF := t.1.cell
              clear hWf G F G1
              exact bodyPost_ret (v := .tuple #[.agg #[.int .i64 0, .slice none 0 0], .bool false]) (by simp [results, Tryz.results12, go_sem, GF]) rfl ⟨none, 0, 0, by rw [HPB.out.1, HPB.out.2.1], by rw [HPB.out.2.2]; exact t.2.1, t.2.2⟩
            | true =>
              have hpd := hfb.trans hpb
              have hyy := HYY.out hpd
              rw [he, lgN_pow m hlt] at hyy
              have HPB := Lib.hid (And.intro hpd hyy)
              have HPB2 := Lib.hid hpb
              clear hpb hpd hfb he hyy
              go_wp2_with fail
              refine (HMD.out true HPB2.out).mono ?_
              rintro e w2 ⟨a2, i2, c2, rfl, hsv, b2⟩
              rw [if_pos rfl] at hsv
              rw [if_pos rfl]
              injection hsv with x1 x2 x3
              subst x1 x2 x3
              have K02 := K0w.keep b2
              have B2 := Bw.after b2 Bw.size
              have o2 := ow.keep b2
              have o3 := o2.alloc (.cells #[.int .i64 (m : Int), .slice a2 l.length c2] 32)
              have K03 := K02.alloc (.cells #[.int .i64 (m : Int), .slice a2 l.length c2] 32)
              have B3 := B2.alloc B2.size (.cells #[.int .i64 (m : Int), .slice a2 l.length c2] 32)
              have K13 := Blk.new w2 32 #[.int .i64 (m : Int), .slice a2 l.length c2]
              have G := K02.cell
              have F := K02.frozen
              have z2 := K02.lt
              go_upto_region 18 with fail
              obtain ⟨W3, hW3⟩ : ∃ W, W = w2.alloc (.cells #[.int .i64 (m : Int), .slice a2 l.length c2] 32) := ⟨_, rfl⟩
              rw [← hW3] at K03 B3 K13 o3 ⊢
              clear hW3 G F
              have G := K03.cell
              have F := K03.frozen
              have G1 := K13.cell
              go_wp2
              refine post_named ?_
              intro Wf hWf
              have t := box_tail (w := w) (E := 32) (m := (m : Int)) (b := .slice a2 l.length c2) K03 o3 (Nat.le_refl _) (by omega) B3 hWf
              have GF := t.1.cell
              clear hWf G F G1
              exact bodyPost_ret (v := .tuple #[.agg #[.int .i64 (m : Int), .slice a2 l.length c2], .bool true]) (by simp [results, Tryz.results12, go_sem, GF]) rfl ⟨_, _, _, by rw [HPB.out.1, HPB.out.2.1], by rw [HPB.out.2.2]; exact t.2.1, t.2.2⟩
          · have he1 : ((l.length : Int) == (2 : Int) ^ m) = false := by rw [beq_eq_false_iff_ne, HCA.out]; omega
            have HE := Lib.hid he
            have hwrap : IntKind.i64.wrap ((2 : Int) ^ m) = 2 ^ m := by rw [IntKind.wrap_i64]; omega
            clear he
            go_wp2
            go_roundw
            case rel =>
              refine ⟨m + 1, by omega, by go_num, fun q hq => ?_, by first | rfl | trivial⟩
              by_cases h : q = m
              · rw [h]; exact HE.out
              · exact HNO.out q (by omega)
            case measure => simp [intOf]; omega
        · have hle : ¬ (m : Int) ≤ 5 := by omega
          have hpn := HFN.out (fun q hq => HNO.out q (by omega))
          have HPB := Lib.hid (And.intro hpn (fd_no hpn))
          have G := K0w.cell
          have F := K0w.frozen
          clear hpn
          go_wp2
          refine post_named ?_
          intro Wf hWf
          have t := box_tail (w := w) (E := 32) (m := 0) (b := .slice none 0 0) K0w (OwnI.nil 3 (wr.heap.size) wr) (Nat.le_refl _) K0w.lt Bw hWf
          have GF := t.1.cell
          clear hWf G F
          exact bodyPost_ret (v := .tuple #[.agg #[.int .i64 0, .slice none 0 0], .bool false]) (by simp [results, Tryz.results12, go_sem, GF]) rfl ⟨none, 0, 0, by rw [HPB.out.1, HPB.out.2.1], by rw [HPB.out.2.2]; exact t.2.1, t.2.2⟩
end Go.Proofs.YtipejodijbjpcaaGreatDoor
end
