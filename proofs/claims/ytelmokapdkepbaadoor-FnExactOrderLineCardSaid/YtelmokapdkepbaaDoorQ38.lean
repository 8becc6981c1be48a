/- Largest antichains: the second program. Largest antichains: the second program's function. -/
import Derived.Test.YtelmokapdkepbaaDoorQ37
import Derived.Deep.RegionHeld3
section
namespace Go.Proofs.YtelmokapdkepbaaDoor
open Go.RowKit Go.G5

def tSA (l : List Int) (s : Int) : Bool := freeS (l ++ [s])
theorem ac_at (l : List Int) (j : Nat) (h : j < l.length) (c b : List Int) : acS tSA (l.drop j) c b = if c.length + (l.length - j) ≤ b.length then b else if tSA c l[j] then acS tSA (l.drop (j + 1)) c (longer b (acS tSA (l.drop (j + 1)) (c ++ [l[j]]) (c ++ [l[j]]))) else acS tSA (l.drop (j + 1)) c b := by
  rw [List.drop_eq_getElem_cons h, acS, List.length_drop, show l.length - (j + 1) + 1 = l.length - j by omega]

set_option maxHeartbeats 4000000 in
set_option maxRecDepth 100000 in
theorem l25Grow_any (l : List Int) (lv : Value) (hm : ∀ x ∈ l, 0 ≤ x ∧ x < 64) (hl : l.length ≤ 64) : ∀ (m k : Nat) (ch : List Int) (v : Value) (w : World) (B : Nat), k + m = l.length → Ints w lv l → OwnI 3 B w v ch → (∀ x ∈ ch, 0 ≤ x ∧ x < 64) → B ≤ w.heap.size → ch.length + m ≤ 64 →
    Calls Tryd.prog 40 #[lv, .int .i64 k, v] w fun e w' => ∃ a i q, e = .returned (.slice a i q) ∧ OwnI 3 B w' (.slice a i q) (acS tSA (l.drop k) ch ch) ∧ Below w.heap.size w w' := by
  have HM := Lib.hid hm
  clear hm
  intro m
  induction m using Nat.strongRecOn with
  | ind m ih =>
  intro k ch v w B hkm hlv own hcb hB hcm
  have hlv0 := hlv
  obtain ⟨a, b, off, cp, rfl, hlen, hix, hc, hb⟩ := hlv.view Tryd.prog 22 3 Tryd.underlying22 intElem
  obtain ⟨av, cv, rfl⟩ := own.shape
  have HC := Lib.hid hc
  have HIX := Lib.hid hix
  have IH := Lib.hid ih
  have HCB := Lib.hid hcb
  clear hc hix ih hlen hcb
  go_enter Tryd.func40, Tryd.ntmps40
  go_wp2_with fail
  go_loopw [7, 8] (fun bv iv wr => ∃ (j : Nat) (x : List Int) (p : Option Addr) (n q : Nat), k ≤ j ∧ j ≤ l.length ∧ iv = .int .i64 j ∧ bv = .slice p n q ∧ OwnI 3 B wr (.slice p n q) x ∧ x.length ≤ 64 ∧ acS tSA (l.drop j) ch x = acS tSA (l.drop k) ch ch ∧ Below w.heap.size w wr) (fun _ iv _ => l.length - (intOf iv).toNat)
  case atStart => exact ⟨k, ch, _, _, _, Nat.le_refl _, by omega, rfl, rfl, own, by omega, rfl, Below.refl _ _⟩
  case round =>
    obtain ⟨j, y, p, n, q, hkj, hj, rfl, rfl, ox, hx64, hpk, Bw⟩ := hrel
    have hny := ox.ints.capLe.1
    subst hny
    by_cases hlt : j < l.length
    · have hlt2 : (j : Int) < (l.length : Int) := by omega
      have hck := cells_below HC.out hb Bw (Nat.le_refl _) j hlt
      have hik := fun W => HIX.out W j hlt
      have hxb := HM.out _ (List.getElem_mem hlt)
      have hat := ac_at l j hlt ch y
      rw [hpk] at hat
      have yw := Bw.size
      have ol := own.keep Bw
      have hchl : ch.length ≤ 64 := by omega
      obtain ⟨x, hx⟩ : ∃ x, x = l[j] := ⟨_, rfl⟩
      rw [← hx] at hck hxb hat
      have hw1 : IntKind.i64.wrap ((ch.length : Int) + (l.length : Int)) = (ch.length : Int) + (l.length : Int) := by rw [IntKind.wrap_i64]; omega
      have hw2 : IntKind.i64.wrap ((ch.length : Int) + (l.length : Int) - (j : Int)) = (ch.length : Int) + (l.length : Int) - (j : Int) := by rw [IntKind.wrap_i64]; omega
      clear hx hpk
      by_cases hpr : ch.length + (l.length - j) ≤ y.length
      · rw [if_pos hpr] at hat
        have hpr2 : (ch.length : Int) + (l.length : Int) - (j : Int) ≤ (y.length : Int) := by omega
        have HAT := Lib.hid hat
        clear hat hpr
        go_wp2
        go_ret
        exact ⟨_, _, _, rfl, by rw [HAT.out]; exact ox, Bw⟩
      · rw [if_neg hpr] at hat
        have hpr2 : ¬ (ch.length : Int) + (l.length : Int) - (j : Int) ≤ (y.length : Int) := by omega
        have hrm : ch.length + 1 + (l.length - (j + 1)) ≤ 64 := by omega
        have hnx : ∀ e ∈ ([] ++ ch) ++ [x], 0 ≤ e ∧ e < 64 := fun e he => by
          rw [List.nil_append] at he
          rcases List.mem_append.1 he with h | h
          · exact HCB.out e h
          · rw [List.mem_singleton] at h; rw [h]; exact hxb
        have hfree : ∀ (v2 : Value) (w2 : World), OwnI 3 wr.heap.size w2 v2 (([] ++ ch) ++ [x]) → Calls Tryd.prog 63 #[v2] w2 fun e w' => e = .returned (.bool (tSA ch x)) ∧ Below w2.heap.size w2 w' := fun v2 w2 q1 => by
          have := l25Free_any (([] ++ ch) ++ [x]) v2 w2 q1.ints hnx (by simp; omega)
          exact this
        obtain ⟨R, hR⟩ : ∃ R, R = acS tSA (l.drop (j + 1)) (ch ++ [x]) (ch ++ [x]) := ⟨_, rfl⟩
        have hRl : R.length ≤ 64 := by
          rw [hR]
          have h1 := acS_len tSA (l.drop (j + 1)) (ch ++ [x]) (ch ++ [x])
          rw [List.length_append, List.length_singleton, List.length_drop] at h1
          omega
        have hrec : ∀ (v2 : Value) (w2 : World), OwnI 3 wr.heap.size w2 v2 (([] ++ ch) ++ [x]) → Below wr.heap.size wr w2 →
            Calls Tryd.prog 40 #[.slice a l.length cp, .int .i64 ((j : Int) + 1), v2] w2 fun e w' => ∃ ad i q, e = .returned (.slice ad i q) ∧ OwnI 3 wr.heap.size w' (.slice ad i q) R ∧ Below w2.heap.size w2 w' := fun v2 w2 q1 q2 => by
          rw [hR, show (j : Int) + 1 = ((j + 1 : Nat) : Int) by simp]
          have hnx2 := hnx
          rw [List.nil_append] at q1 hnx2
          exact IH.out (l.length - (j + 1)) (by omega) (j + 1) _ v2 w2 wr.heap.size (by omega) (hlv0.below (Bw.after q2 Bw.size) (Nat.le_refl _)) q1 hnx2 q2.size (by rw [List.length_append, List.length_singleton]; omega)
        rw [← hR] at hat
        have HREC := Lib.hid hrec
        have HFREE := Lib.hid hfree
        have HAT := Lib.hid hat
        have hL1 : ([] : List Int).length + ch.length ≤ 17592186044416 := by simp; omega
        have hL2 : ([] ++ ch).length + [x].length ≤ 17592186044416 := by simp; omega
        have hXR : InR x := ⟨by omega, by omega⟩
        have hwj : IntKind.i64.wrap ((j : Int) + 1) = (j : Int) + 1 := by rw [IntKind.wrap_i64]; omega
        have HLL1 := Lib.hid hL1
        have HLL2 := Lib.hid hL2
        have HXR := Lib.hid hXR
        clear hrec hat hR hL1 hL2 hXR hnx hfree hpr hrm
        go_wp2_with fail
        go_region_held3 (fun w' => w'.cell? ⟨b, off + j, none⟩ = some (.int .i64 x)) (go_keep)
          (first
            | (refine step_put rfl _ _ _ rfl 3 Tryd.underlying22 intElem wr.heap.size (.slice (some ⟨_, 0, none⟩) 0 0) [] rfl (.slice av ch.length cv) ch rfl ?_ ?_ HLL1.out wr ?_ (Nat.le_refl _) ?_; (first | (with_reducible exact (OwnI.lit0 wr (Nat.le_refl _)).drew') | (with_reducible exact ((OwnI.lit0 wr (Nat.le_refl _)).alloc _).drew') | (with_reducible exact (OwnI.lit0' wr _).drew')); (first | (with_reducible exact (ol.ints.alloc _).drew') | (with_reducible exact ((ol.ints.alloc _).alloc _).drew')); (first | (with_reducible exact (bl1 wr _).drew) | (with_reducible exact (bl2 wr _ _).drew)); (intro v1 w1 o1 b1 pc; have hq1 := keep b1 hck))
            | (refine step_put rfl _ _ _ rfl 3 Tryd.underlying22 intElem wr.heap.size v1 ([] ++ ch) rfl (.slice (some ⟨_, 0, none⟩) 1 1) [x] rfl ?_ ?_ HLL2.out wr ?_ (Nat.le_refl _) ?_; (first | (with_reducible exact o1) | (with_reducible exact o1.alloc _)); (refine Ints.one ?_ HXR.out; first | (with_reducible exact cell_new _ _ _ _ _ rfl) | (with_reducible exact pc _ _ (cell_second _ _ _ _) (own_ne1 _ _ _)) | (with_reducible exact pc _ _ (cell_first _ _ _ _) (own_ne2 _ _ _))); (first | (with_reducible exact b1) | (with_reducible exact b1.alloc b1.size _)); (intro v2 w2 o2 b2 _; have hq2 := keep b2 hck))
          )
        all_goals
          obtain ⟨p2, n2, c2, rfl⟩ := o2.shape3
          go_wp2_with fail
          refine (HFREE.out _ w2 o2).mono ?_
          rintro e w3 ⟨rfl, b3⟩
          have B3 := b2.after b3 b2.size
          have o3 := o2.keep b3
          cases hT : tSA ch x with
          | false =>
            have hat2 : acS tSA (l.drop (j + 1)) ch y = acS tSA (l.drop k) ch ch := by rw [HAT.out, hT]; rfl
            have HAT2 := Lib.hid hat2
            have Bz := Bw.after B3 Bw.size
            have oz := ox.keep B3
            clear hat2 hT
            go_wp2
            go_roundw
            case rel => exact ⟨j + 1, y, p, _, q, by omega, by omega, by go_num, rfl, oz, hx64, HAT2.out, Bz⟩
            case measure => simp [intOf]; omega
          | true =>
            have hat1 : acS tSA (l.drop (j + 1)) ch (longer y R) = acS tSA (l.drop k) ch ch := by rw [HAT.out, hT]; rfl
            have HAT1 := Lib.hid hat1
            clear hat1 hT
            go_wp2_with fail
            refine (HREC.out _ w3 o3 B3).mono ?_
            rintro e w4 ⟨p4, i4, q4, rfl, o4, b4⟩
            have hi4 : i4 = R.length := o4.ints.capLe.1
            subst hi4
            have B4 := B3.after b4 B3.size
            have Bz := Bw.after B4 Bw.size
            have oz := ox.keep B4
            by_cases hgt : y.length < R.length
            · have hgt2 : (y.length : Int) < (R.length : Int) := by omega
              have hlo : longer y R = R := by unfold longer; rw [if_pos hgt]
              have hat2 : acS tSA (l.drop (j + 1)) ch R = acS tSA (l.drop k) ch ch := by rw [← HAT1.out, hlo]
              have HAT2 := Lib.hid hat2
              have o4' := o4.mono (B' := B) (by omega)
              clear hlo hat2 hgt
              go_wp2
              go_roundw
              case rel => exact ⟨j + 1, R, p4, _, q4, by omega, by omega, by go_num, rfl, o4', hRl, HAT2.out, Bz⟩
              case measure => simp [intOf]; omega
            · have hgt2 : ¬ (y.length : Int) < (R.length : Int) := by omega
              have hlo : longer y R = y := by unfold longer; rw [if_neg hgt]
              have hat2 : acS tSA (l.drop (j + 1)) ch y = acS tSA (l.drop k) ch ch := by rw [← HAT1.out, hlo]
              have HAT2 := Lib.hid hat2
              clear hlo hat2 hgt
              go_wp2
              go_roundw
              case rel => exact ⟨j + 1, y, p, _, q, by omega, by omega, by go_num, rfl, oz, hx64, HAT2.out, Bz⟩
              case measure => simp [intOf]; omega
    · have hj2 : j = l.length := by omega
      have hpk2 : y = acS tSA (l.drop k) ch ch := by rw [← hpk, hj2, List.drop_length]; rfl
      have HPK := Lib.hid hpk2
      clear hpk hpk2
      go_wp2
      go_ret
      exact ⟨_, _, _, rfl, by rw [← HPK.out]; exact ox, Bw⟩
end Go.Proofs.YtelmokapdkepbaaDoor
end
section
namespace Go.Proofs.YtelmokapdkepbaaDoor
open Go.RowKit Go.G5

set_option maxHeartbeats 1000000 in
set_option maxRecDepth 100000 in
theorem acmaxS_c (w : World) (g : Int) (v : Value) (l : List Int) (hv : Ints w v l) :
    Calls Tryd.prog 14 #[.agg #[.int .i64 g, v]] w fun e w' => ∃ ad i cp, e = .returned (.tuple #[.agg #[.int .i64 (laN g l), .slice ad i cp], .bool (laB g l)]) ∧ Ints w' (.slice ad i cp) (laL g l) ∧ Below w.heap.size w w' := by
  have hv0 := hv
  obtain ⟨a, c, rfl⟩ := hv.shape
  go_enter Tryd.func14, Tryd.ntmps14
  go_wp2_with fail
  refine calls_named ?_
  intro V hV
  have B : Below w.heap.size w V := by rw [hV]; exact bl2 _ _ _
  have K1 : Blk V w.heap.size 27 #[.int .i64 g, .slice a l.length c] := by rw [hV]; exact (Blk.new _ _ _).alloc _
  have K2 : Blk V (w.heap.size + 1) 27 #[.int .i64 0, .slice none 0 0] := by rw [hV]; have := Blk.new (w.alloc (.cells #[.int .i64 g, .slice a l.length c] 27)) 27 #[.int .i64 0, .slice none 0 0]; simpa using this
  clear hV
  refine (isFamS_any g l _ _ (hv.below B (Nat.le_refl _))).mono ?_
  rintro e w1 ⟨rfl, hb1⟩
  have K1' := K1.keep hb1
  have K2' := K2.keep hb1
  have B1 := B.after hb1 B.size
  have hv1 := hv.below B1 (Nat.le_refl _)
  clear K1 K2 B hb1
  have G1 := K1'.cell
  have z1 := K1'.lt
  have z2 := K2'.lt
  cases hla : laB g l with
  | false =>
    have hno := And.intro (laB_no hla) hla
    have HN := Lib.hid hno
    have hor : isFamB g l = false ∨ (isFamB g l = true ∧ ¬ l.length ≤ 12) := by
      unfold laB at hla
      cases hf : isFamB g l with
      | false => exact .inl rfl
      | true => rw [hf] at hla; simp at hla; exact .inr ⟨rfl, by omega⟩
    clear hno hla
    have G2 := K2'.cell
    have F2 := K2'.frozen
    have key : ∀ Wf, Wf = (w1.setCell ⟨w.heap.size + 1, 0, none⟩ (.int .i64 0)).setCell ⟨w.heap.size + 1, 1, none⟩ (.slice none 0 0) → Blk Wf (w.heap.size + 1) 27 #[.int .i64 0, .slice none 0 0] ∧ Below w.heap.size w Wf := fun Wf hWf => by
      refine ⟨?_, by rw [hWf]; exact Below.setCell (Below.setCell B1 (by first | omega | (simp; done) | (simp; omega)) _) (by first | omega | (simp; done) | (simp; omega)) _⟩
      rw [hWf]
      have := (K2'.set 0 (.int .i64 0)).set 1 (.slice none 0 0)
      simpa using this
    rcases hor with hf | ⟨hf, hgt⟩
    · rw [hf]
      go_wp2
      refine post_named ?_
      intro Wf hWf
      obtain ⟨Kf, Bf⟩ := key Wf hWf
      have Gf := Kf.cell
      clear hWf G1 G2 F2 key
      exact bodyPost_ret (v := .tuple #[.agg #[.int .i64 0, .slice none 0 0], .bool false]) (by simp [results, Tryd.results14, go_sem, Gf]) rfl ⟨none, 0, 0, by rw [HN.out.1.1, HN.out.2], by rw [HN.out.1.2]; exact Ints.empty _ _ _ _ rfl (by decide), Bf⟩
    · rw [hf]
      have hgt2 : (12 : Int) < (l.length : Int) := by omega
      go_wp2
      refine post_named ?_
      intro Wf hWf
      obtain ⟨Kf, Bf⟩ := key Wf hWf
      have Gf := Kf.cell
      clear hWf G1 G2 F2 key
      exact bodyPost_ret (v := .tuple #[.agg #[.int .i64 0, .slice none 0 0], .bool false]) (by simp [results, Tryd.results14, go_sem, Gf]) rfl ⟨none, 0, 0, by rw [HN.out.1.1, HN.out.2], by rw [HN.out.1.2]; exact Ints.empty _ _ _ _ rfl (by decide), Bf⟩
  | true =>
    have hyes := And.intro (laB_yes hla) hla
    have HY := Lib.hid hyes
    unfold laB at hla
    rw [Bool.and_eq_true, decide_eq_true_eq] at hla
    obtain ⟨hf, h12⟩ := hla
    have h12b : ¬ (12 : Int) < (l.length : Int) := by omega
    have hgr : ∀ W v, Below w1.heap.size w1 W → OwnI 3 w1.heap.size W v [] → Calls Tryd.prog 40 #[.slice a l.length c, .int .i64 0, v] W fun e w' => ∃ a i q, e = .returned (.slice a i q) ∧ OwnI 3 w1.heap.size w' (.slice a i q) (acS acI l [] []) ∧ Below W.heap.size W w' := fun W v h1 h2 => by
      have := l25Grow_any l _ (fam_mem hf) (by omega) l.length 0 [] v W w1.heap.size (by omega) (hv1.below h1 (Nat.le_refl _)) h2 (by simp) h1.size (by simp; omega)
      rw [List.drop_zero] at this
      have e : acS tSA l [] [] = acS acI l [] [] := ac_same l [] [] free_nil (by simp) (fun x hx => (fam_mem hf x hx).1)
      rw [e] at this
      exact this
    have HGR := Lib.hid hgr
    rw [hf]
    clear hyes hf hgr
    go_wp2_with fail
    have G2 := K2'.cell
    have F2 := K2'.frozen
    go_region_held3 (fun w' => w'.cell? ⟨w.heap.size, 0, none⟩ = some (.int .i64 g) ∧ w'.cell? ⟨w.heap.size, 1, none⟩ = some (.slice a l.length c)) (go_keep)
      (first
        | (go_at_call 40; refine (HGR.out _ _ (bl1 w1 _).drew (OwnI.lit0 w1 (Nat.le_refl _)).drew').mono ?_; rintro e w3 ⟨p3, i3, q3, rfl, o3, hb3⟩; have b3 := (bl1 w1 (.cells #[] 3)).drew.after hb3 (bl1 w1 (.cells #[] 3)).drew.size; obtain ⟨hc3, hf3⟩ := bcellN b3 w1.heap.size (by first | omega | (simp; done) | (simp; omega)); have z3 := b3.size; (try simp at z3)))
    go_wp2
    refine post_named ?_
    intro Wf hWf
    have Kf : Blk Wf (w.heap.size + 1) 27 #[.int .i64 g, .slice p3 i3 q3] := by
      rw [hWf]
      have := ((K2'.keep b3).set 0 (.int .i64 g)).set 1 (.slice p3 i3 q3)
      simpa using this
    have Bf : Below w.heap.size w Wf := by rw [hWf]; exact Below.setCell (Below.setCell (B1.after b3 B1.size) (by first | omega | (simp; done) | (simp; omega)) _) (by first | omega | (simp; done) | (simp; omega)) _
    have of : OwnI 3 w1.heap.size Wf (.slice p3 i3 q3) (acS acI l [] []) := by rw [hWf]; exact (o3.setBelow (by show w.heap.size + 1 < _; omega) _).setBelow (by show w.heap.size + 1 < _; omega) _
    have Gf := Kf.cell
    clear hWf G1 G2 F2 hc3 hf3
    exact bodyPost_ret (v := .tuple #[.agg #[.int .i64 g, .slice p3 i3 q3], .bool true]) (by simp [results, Tryd.results14, go_sem, Gf]) rfl ⟨_, _, _, by rw [HY.out.1.1, HY.out.2], by rw [HY.out.1.2]; exact of.ints, Bf⟩
end Go.Proofs.YtelmokapdkepbaaDoor
end
