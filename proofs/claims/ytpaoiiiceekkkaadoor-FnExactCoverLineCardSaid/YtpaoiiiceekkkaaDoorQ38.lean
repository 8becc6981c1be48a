/- Packings: the second program. -/
import Derived.Test.YtpaoiiiceekkkaaDoorQ37
import Derived.Deep.RegionHeld3
section
namespace Go.Proofs.YtpaoiiiceekkkaaDoor
open Go.RowKit Go.G5

theorem okB_is (s u : Int) : okB s u = (!(iand s u != 0) && !(s == 0)) := by
  unfold okB
  cases h1 : iand s u == 0 <;> cases h2 : s == 0 <;> simp_all
theorem pack_at (l : List Int) (j : Nat) (h : j < l.length) (u : Int) (c b : List Int) : packS (l.drop j) u c b = if okB l[j] u then packS (l.drop (j + 1)) u c (longer b (packS (l.drop (j + 1)) (ior u l[j]) (c ++ [l[j]]) (c ++ [l[j]]))) else packS (l.drop (j + 1)) u c b := by
  rw [List.drop_eq_getElem_cons h, packS]

set_option maxHeartbeats 4000000 in
set_option maxRecDepth 100000 in
theorem l20Pack_any (l : List Int) (lv : Value) (hm : ∀ x ∈ l, 0 ≤ x ∧ x < 64) (hl : l.length ≤ 64) : ∀ (m k : Nat) (u : Int) (ch : List Int) (v : Value) (w : World) (B : Nat), k + m = l.length → Ints w lv l → OwnI 3 B w v ch → B ≤ w.heap.size → 0 ≤ u → u < 64 → ch.length + m ≤ 64 →
    Calls Tryd.prog 136 #[lv, .int .i64 k, .int .i64 u, v] w fun e w' => ∃ a i q, e = .returned (.slice a i q) ∧ OwnI 3 B w' (.slice a i q) (packS (l.drop k) u ch ch) ∧ Below w.heap.size w w' := by
  have HM := Lib.hid hm
  clear hm
  intro m
  induction m using Nat.strongRecOn with
  | ind m ih =>
  intro k u ch v w B hkm hlv own hB hu0 hu1 hcm
  have hlv0 := hlv
  obtain ⟨a, b, off, cp, rfl, hlen, hix, hc, hb⟩ := hlv.view Tryd.prog 22 3 Tryd.underlying22 intElem
  obtain ⟨av, cv, rfl⟩ := own.shape
  have HC := Lib.hid hc
  have HIX := Lib.hid hix
  have IH := Lib.hid ih
  clear hc hix ih hlen
  go_enter Tryd.func136, Tryd.ntmps136
  go_wp2_with fail
  go_loopw [9, 10] (fun bv iv wr => ∃ (j : Nat) (x : List Int) (p : Option Addr) (n q : Nat), k ≤ j ∧ j ≤ l.length ∧ iv = .int .i64 j ∧ bv = .slice p n q ∧ OwnI 3 B wr (.slice p n q) x ∧ x.length ≤ 64 ∧ packS (l.drop j) u ch x = packS (l.drop k) u ch ch ∧ Below w.heap.size w wr) (fun _ iv _ => l.length - (intOf iv).toNat)
  case atStart => exact ⟨k, ch, _, _, _, Nat.le_refl _, by omega, rfl, rfl, own, by omega, rfl, Below.refl _ _⟩
  case round =>
    obtain ⟨j, y, p, n, q, hkj, hj, rfl, rfl, ox, hx64, hpk, Bw⟩ := hrel
    have hny := ox.ints.capLe.1
    subst hny
    by_cases hlt : j < l.length
    · have hlt2 : (j : Int) < (l.length : Int) := by omega
      have hck := cells_below HC.out hb Bw (Nat.le_refl _) j hlt
      have hik := fun W => HIX.out W j hlt
      have hxb := HM.out _ (List.getElem_mem hlt)
      have hat := pack_at l j hlt u ch y
      rw [hpk] at hat
      have yw := Bw.size
      have ol := own.keep Bw
      obtain ⟨x, hx⟩ : ∃ x, x = l[j] := ⟨_, rfl⟩
      rw [← hx] at hck hxb hat
      have hand : bits .and .i64 x u = iand x u := iand_is hxb.1 (by omega) hu0 (by omega)
      have hok := okB_is x u
      obtain ⟨z, hz⟩ : ∃ z, z = iand x u := ⟨_, rfl⟩
      rw [← hz] at hand hok
      clear hx hz hpk
      cases h1 : z != 0 with
      | true =>
        have hno : okB x u = false := by rw [hok, h1]; rfl
        rw [hno] at hat
        have HAT := Lib.hid hat
        clear hat hno hok
        go_wp2
        go_roundw
        case rel => exact ⟨j + 1, y, p, _, q, by omega, by omega, by go_num, rfl, ox, hx64, HAT.out.symm, Bw⟩
        case measure => simp [intOf]; omega
      | false =>
        cases h2 : x == 0 with
        | true =>
          have hno : okB x u = false := by rw [hok, h1, h2]; rfl
          rw [hno] at hat
          have HAT := Lib.hid hat
          clear hat hno hok
          go_wp2
          go_roundw
          case rel => exact ⟨j + 1, y, p, _, q, by omega, by omega, by go_num, rfl, ox, hx64, HAT.out.symm, Bw⟩
          case measure => simp [intOf]; omega
        | false =>
          have hyes : okB x u = true := by rw [hok, h1, h2]; rfl
          rw [hyes, if_pos rfl] at hat
          have hor : bits .or .i64 u x = ior u x := ior_is hu0 (by omega) hxb.1 (by omega)
          have hob := ior_bd u x 6 hu0 hxb.1 (by omega) (by omega)
          obtain ⟨u2, hu2⟩ : ∃ u2, u2 = ior u x := ⟨_, rfl⟩
          rw [← hu2] at hor hob hat
          have hob0 := hob.1
          have hob1 : u2 < 64 := by omega
          obtain ⟨R, hR⟩ : ∃ R, R = packS (l.drop (j + 1)) u2 (ch ++ [x]) (ch ++ [x]) := ⟨_, rfl⟩
          have hRl : R.length ≤ 64 := by rw [hR]; exact packS_len 64 _ _ _ _ (by simp; omega) (by simp; omega)
          have hrec : ∀ (v2 : Value) (w2 : World), OwnI 3 wr.heap.size w2 v2 (([] ++ ch) ++ [x]) → Below wr.heap.size wr w2 →
              Calls Tryd.prog 136 #[.slice a l.length cp, .int .i64 ((j : Int) + 1), .int .i64 u2, v2] w2 fun e w' => ∃ ad i q, e = .returned (.slice ad i q) ∧ OwnI 3 wr.heap.size w' (.slice ad i q) R ∧ Below w2.heap.size w2 w' := fun v2 w2 q1 q2 => by
            rw [hR, show (j : Int) + 1 = ((j + 1 : Nat) : Int) by simp]
            rw [List.nil_append] at q1
            exact IH.out (l.length - (j + 1)) (by omega) (j + 1) u2 _ v2 w2 wr.heap.size (by omega) (hlv0.below (Bw.after q2 Bw.size) (Nat.le_refl _)) q1 q2.size hob0 hob1 (by rw [List.length_append, List.length_singleton]; omega)
          rw [← hR] at hat
          have HREC := Lib.hid hrec
          have HAT := Lib.hid hat
          have hL1 : ([] : List Int).length + ch.length ≤ 17592186044416 := by simp; omega
          have hL2 : ([] ++ ch).length + [x].length ≤ 17592186044416 := by simp; omega
          have hXR : InR x := ⟨by omega, by omega⟩
          have hwj : IntKind.i64.wrap ((j : Int) + 1) = (j : Int) + 1 := by rw [IntKind.wrap_i64]; omega
          have HLL1 := Lib.hid hL1
          have HLL2 := Lib.hid hL2
          have HXR := Lib.hid hXR
          clear hrec hat hR hu2 hob hyes hok hL1 hL2 hXR
          go_wp2_with fail
          go_region_held3 (fun w' => w'.cell? ⟨b, off + j, none⟩ = some (.int .i64 x)) (go_keep)
            (first
              | (refine step_put rfl _ _ _ rfl 3 Tryd.underlying22 intElem wr.heap.size (.slice (some ⟨_, 0, none⟩) 0 0) [] rfl (.slice av ch.length cv) ch rfl ?_ ?_ HLL1.out wr ?_ (Nat.le_refl _) ?_; (first | (with_reducible exact (OwnI.lit0 wr (Nat.le_refl _)).drew') | (with_reducible exact ((OwnI.lit0 wr (Nat.le_refl _)).alloc _).drew') | (with_reducible exact (OwnI.lit0' wr _).drew')); (first | (with_reducible exact (ol.ints.alloc _).drew') | (with_reducible exact ((ol.ints.alloc _).alloc _).drew')); (first | (with_reducible exact (bl1 wr _).drew) | (with_reducible exact (bl2 wr _ _).drew)); (intro v1 w1 o1 b1 pc; have hq1 := keep b1 hck))
              | (refine step_put rfl _ _ _ rfl 3 Tryd.underlying22 intElem wr.heap.size v1 ([] ++ ch) rfl (.slice (some ⟨_, 0, none⟩) 1 1) [x] rfl ?_ ?_ HLL2.out wr ?_ (Nat.le_refl _) ?_; (first | (with_reducible exact o1) | (with_reducible exact o1.alloc _)); (refine Ints.one ?_ HXR.out; first | (with_reducible exact cell_new _ _ _ _ _ rfl) | (with_reducible exact pc _ _ (cell_second _ _ _ _) (own_ne1 _ _ _)) | (with_reducible exact pc _ _ (cell_first _ _ _ _) (own_ne2 _ _ _))); (first | (with_reducible exact b1) | (with_reducible exact b1.alloc b1.size _)); (intro v2 w2 o2 b2 _; have hq2 := keep b2 hck))
              | (go_at_call 136; with_reducible refine (HREC.out v2 w2 o2 b2).mono ?_; rintro e3 w3 ⟨p3, i3, q3, rfl, o3, b3⟩; have b3' := b2.after b3 b2.size; have hq3 := keep b3' hck)
            )
          all_goals
            have hi3 : i3 = R.length := o3.ints.capLe.1
            subst hi3
            have B3 : Below w.heap.size w w3 := Bw.after b3' Bw.size
            have ox3 := ox.keep b3'
            by_cases hgt : y.length < R.length
            · have hgt2 : (y.length : Int) < (R.length : Int) := by omega
              have hlo : longer y R = R := by unfold longer; rw [if_pos hgt]
              have hat2 : packS (l.drop (j + 1)) u ch R = packS (l.drop k) u ch ch := by rw [HAT.out, hlo]
              have HAT2 := Lib.hid hat2
              have o3' := o3.mono (B' := B) (by omega)
              clear hlo hat2 hgt
              go_wp2
              go_roundw
              case rel => exact ⟨j + 1, R, p3, _, q3, by omega, by omega, by go_num, rfl, o3', hRl, HAT2.out, B3⟩
              case measure => simp [intOf]; omega
            · have hgt2 : ¬ (y.length : Int) < (R.length : Int) := by omega
              have hlo : longer y R = y := by unfold longer; rw [if_neg hgt]
              have hat2 : packS (l.drop (j + 1)) u ch y = packS (l.drop k) u ch ch := by rw [HAT.out, hlo]
              have HAT2 := Lib.hid hat2
              clear hlo hat2 hgt
              go_wp2
              go_roundw
              case rel => exact ⟨j + 1, y, p, _, q, by omega, by omega, by go_num, rfl, ox3, hx64, HAT2.out, B3⟩
              case measure => simp [intOf]; omega
    · have hj2 : j = l.length := by omega
      have hpk2 : y = packS (l.drop k) u ch ch := by rw [← hpk, hj2, List.drop_length]; rfl
      have HPK := Lib.hid hpk2
      clear hpk hpk2
      go_wp2
      go_ret
      exact ⟨_, _, _, rfl, by rw [← HPK.out]; exact ox, Bw⟩

set_option maxHeartbeats 1000000 in
set_option maxRecDepth 100000 in
theorem packNumS_any (w : World) (g : Int) (v : Value) (l : List Int) (hv : Ints w v l) :
    Calls Tryd.prog 73 #[.agg #[.int .i64 g, v]] w fun e w' => ∃ ad i cp, e = .returned (.tuple #[.int .i64 ((pkL g l).length : Int), .slice ad i cp, .bool (isFamB g l)]) ∧ Ints w' (.slice ad i cp) (pkL g l) ∧ Below w.heap.size w w' := by
  have hv0 := hv
  obtain ⟨a, c, rfl⟩ := hv.shape
  have K0 := Blk.new w 32 #[.int .i64 g, .slice a l.length c]
  cases hf : isFamB g l with
  | false =>
    have hL : pkL g l = [] := by unfold pkL; rw [hf]; rfl
    have HL := Lib.hid hL
    have HF := Lib.hid hf
    clear hL hf
    go_enter Tryd.func73, Tryd.ntmps73
    go_wp2_with fail
    refine (isFamS_any g l _ _ (hv0.alloc _)).mono ?_
    rintro e w1 ⟨rfl, hb1⟩
    rw [HF.out]
    have B1 : Below w.heap.size w w1 := (bl1 _ _).after hb1 (by simp)
    go_wp2
    exact bodyPost_ret (v := .tuple #[.int .i64 0, .slice (some ⟨w1.heap.size, 0, none⟩) 0 0, .bool false]) (by simp [results, Tryd.results73, go_sem]) rfl ⟨_, 0, 0, by rw [HL.out]; rfl, by rw [HL.out]; exact Ints.empty _ _ _ _ rfl (by decide), B1.alloc B1.size _⟩
  | true =>
    have hL : pkL g l = packL l := by unfold pkL; rw [hf]; rfl
    have hm := fam_mem hf
    have hll := fam_len hf
    have hp : ∀ W v, Ints W (.slice a l.length c) l → OwnI 3 W.heap.size (W.alloc (.cells #[] 3)) v [] → Calls Tryd.prog 136 #[.slice a l.length c, .int .i64 0, .int .i64 0, v] (W.alloc (.cells #[] 3)) fun e w' => ∃ a i q, e = .returned (.slice a i q) ∧ OwnI 3 W.heap.size w' (.slice a i q) (packL l) ∧ Below (W.alloc (.cells #[] 3)).heap.size (W.alloc (.cells #[] 3)) w' := fun W v h1 h2 => by
      exact l20Pack_any l _ hm hll l.length 0 0 [] v _ W.heap.size (by omega) (h1.alloc _) h2 (by simp) (by omega) (by omega) (by simpa using hll)
    have HL := Lib.hid hL
    have HF := Lib.hid hf
    have HP := Lib.hid hp
    clear hL hf hp hm
    go_enter Tryd.func73, Tryd.ntmps73
    go_wp2_with fail
    refine (isFamS_any g l _ _ (hv0.alloc _)).mono ?_
    rintro e w1 ⟨rfl, hb1⟩
    rw [HF.out]
    have B1 : Below w.heap.size w w1 := (bl1 _ _).after hb1 (by simp)
    have K1 := K0.keep hb1
    have G1 := K1.cell
    have z1 := K1.lt
    have hv1 := hv0.below B1 (Nat.le_refl _)
    clear hb1 K0
    go_wp2_with fail
    refine (HP.out w1 _ hv1 (OwnI.lit0 w1 (Nat.le_refl _))).mono ?_
    rintro e w2 ⟨p2, i2, q2, rfl, o2, b2⟩
    have hi2 : i2 = (packL l).length := o2.ints.capLe.1
    subst hi2
    have B2 : Below w.heap.size w w2 := (B1.alloc B1.size _).after b2 (B1.alloc B1.size _).size
    go_wp2
    exact bodyPost_ret (v := .tuple #[.int .i64 ((packL l).length : Int), .slice p2 (packL l).length q2, .bool true]) (by simp [results, Tryd.results73, go_sem]) rfl ⟨p2, _, q2, by rw [HL.out], by rw [HL.out]; exact o2.ints, B2⟩
end Go.Proofs.YtpaoiiiceekkkaaDoor
end
