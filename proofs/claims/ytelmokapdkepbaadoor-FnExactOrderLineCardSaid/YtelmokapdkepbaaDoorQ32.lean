/- Largest antichains: the first program. -/
import Derived.Test.YtelmokapdkepbaaDoorQ31
import Derived.Shelf.Abstract
section
namespace Go.Proofs.YtelmokapdkepbaaDoor
open Go.RowKit Go.G5

set_option maxHeartbeats 1000000 in
set_option maxRecDepth 100000 in
theorem acFits_any (c : List Int) (v : Value) (s : Int) (w : World) (hv : Ints w v c) (hm : ∀ x ∈ c, 0 ≤ x ∧ x < 64) (hs : 0 ≤ s ∧ s < 64) :
    Calls Tryd.prog 52 #[v, .int .i64 s] w fun e w' => e = .returned (.bool (acI c s)) ∧ w = w' := by
  obtain ⟨a, b, off, cp, rfl, hlen, hix, hc, hb⟩ := hv.view Tryd.prog 22 3 Tryd.underlying22 intElem
  have HC := Lib.hid hc
  have HIX := Lib.hid hix
  have HM := Lib.hid hm
  obtain ⟨R, hR⟩ : ∃ R, R = acI c s := ⟨_, rfl⟩
  rw [← hR]
  have HR := Lib.hid hR
  clear hc hix hm hR
  go_enter Tryd.func52, Tryd.ntmps52
  go_wp2
  go_loop [9] (fun iv => ∃ j : Nat, j ≤ c.length ∧ iv = .int .i64 j ∧ allTo (fun j => apartB s (c.getD j 0)) j = true) (fun iv => c.length - (intOf iv).toNat)
  case atStart => exact ⟨0, Nat.zero_le _, rfl, rfl⟩
  case round =>
    obtain ⟨j, hj, rfl, hall⟩ := hrel
    by_cases hlt : j < c.length
    · have hlt2 : (j : Int) < (c.length : Int) := by omega
      have ck := HC.out j hlt
      have ik := fun W => HIX.out W j hlt
      have hxb := HM.out _ (List.getElem_mem hlt)
      have hg : c.getD j 0 = c[j] := getD_at c j hlt
      obtain ⟨x, hx⟩ : ∃ x, x = c[j] := ⟨_, rfl⟩
      rw [← hx] at ck hxb hg
      clear hx
      have hap := apart_any s x w hs hxb
      cases hp : apartB s x with
      | false =>
        rw [hp] at hap
        have hr : R = false := by rw [HR.out]; exact allTo_false hlt (by rw [hg]; exact hp)
        have HAP := Lib.hid hap
        have HRR := Lib.hid hr
        clear hap hr hp
        go_wp2_with (go_at_call 53; refine HAP.out.mono ?_; rintro e w' ⟨rfl, rfl⟩)
        go_ret
        exact ⟨ret_bool HRR.out.symm, rfl⟩
      | true =>
        rw [hp] at hap
        have hall2 : allTo (fun j => apartB s (c.getD j 0)) (j + 1) = true := allTo_succ hall (by rw [hg]; exact hp)
        have HAP := Lib.hid hap
        have HAL := Lib.hid hall2
        clear hap hall2 hp hall
        go_wp2_with (go_at_call 53; refine HAP.out.mono ?_; rintro e w' ⟨rfl, rfl⟩)
        go_round
        case rel => exact ⟨j + 1, by omega, by go_num, HAL.out⟩
        case measure => simp [intOf]; omega
    · have hlt2 : ¬ (j : Int) < (c.length : Int) := by omega
      have hj2 : j = c.length := by omega
      subst hj2
      have hr : R = true := by rw [HR.out]; exact hall
      have HRR := Lib.hid hr
      clear hr hall
      go_wp2
      go_ret
      exact ⟨ret_bool HRR.out.symm, rfl⟩
theorem acFits_enters : ∀ args w, (callFunc 52 args).run Tryd.prog w = .ok (.enter 52 args) w := enters_of Tryd.func52 (by kernel_rfl) rfl

/-- the slice value lies behind block bo -/
def Up (bo : Nat) (v : Value) (l : List Int) : Prop := l ≠ [] → ∀ k, v.ownBlock = some k → bo < k
def acPost (bo : Nat) (b : List Int) (w : World) (e : Ending) (w' : World) : Prop :=
  e = .returned (.tuple #[]) ∧ ∃ v, Blk w' bo 78 #[v, .func (.func 52) #[] #[]] ∧ Ints w' v b ∧ Up bo v b ∧ GrownIn w w' (fun k => k = bo)

set_option maxHeartbeats 1000000 in
set_option maxRecDepth 100000 in
theorem acVisit_any (bo : Nat) : ∀ (m : Nat) (sets : List Int) (sv : Value) (ch : List Int) (lv : Value) (bs : List Int) (bv : Value) (w : World), sets.length = m → (∀ x ∈ sets, 0 ≤ x ∧ x < 64) → Ints w sv sets → Far bo sv sets → Ints w lv ch → Far bo lv ch → (∀ x ∈ ch, 0 ≤ x ∧ x < 64) →
    Blk w bo 78 #[bv, .func (.func 52) #[] #[]] → Ints w bv bs → Up bo bv bs → ch.length + m ≤ 64 → bs.length ≤ 64 →
    Calls Tryd.prog 71 #[.pointer (some ⟨bo, 0, none⟩), sv, lv] w (acPost bo (acV acI sets ch (longer bs ch)) w) := by
  intro m
  induction m using Nat.strongRecOn with
  | ind m ih =>
  intro sets sv ch lv bs bv w hm hsb hs hfs hc hfc hcb K hb hfb hlen hbl
  have hs0 := hs
  have hc0 := hc
  have zo := K.lt
  obtain ⟨a, n, off, cp, rfl, hslen, hix, hcells, hbl2⟩ := hs.view Tryd.prog 22 3 Tryd.underlying22 intElem
  obtain ⟨av, cv, rfl⟩ := hc.shape
  obtain ⟨ab, cb, rfl⟩ := hb.shape
  have HIX := Lib.hid hix
  have HSB := Lib.hid hsb
  have HCB := Lib.hid hcb
  have IH := Lib.hid ih
  have G := K.cell
  have HM := Lib.hid hm
  have he := acFits_enters
  clear hix hsb ih hslen hm hcb
  go_enter Tryd.func71, Tryd.ntmps71
  go_upto_if 15 with fail
  go_cut [16] (fun _ wx => ∃ p q, Blk wx bo 78 #[.slice p (longer bs ch).length q, .func (.func 52) #[] #[]] ∧ Ints wx (.slice p (longer bs ch).length q) (longer bs ch) ∧ Up bo (.slice p (longer bs ch).length q) (longer bs ch) ∧ GrownIn w wx (fun k => k = bo))
  case rest =>
    obtain ⟨p, q, K1, hb1, hf1, g1⟩ := hcut
    clear K hb hfb G
    have hl1 : (longer bs ch).length ≤ 64 := by unfold longer; split <;> omega
    obtain ⟨b1, hb1e⟩ : ∃ b1, b1 = longer bs ch := ⟨_, rfl⟩
    have HE := Lib.hid hb1e
    rw [← hb1e] at K1 hb1 hf1 hl1
    clear hb1e
    go_wp2_with fail
    go_loopw [23] (fun iv wr => ∃ (j : Nat) (y : List Int) (p : Option Addr) (q : Nat), j ≤ sets.length ∧ iv = .int .i64 j ∧ Blk wr bo 78 #[.slice p y.length q, .func (.func 52) #[] #[]] ∧ Ints wr (.slice p y.length q) y ∧ Up bo (.slice p y.length q) y ∧ y.length ≤ 64 ∧ acV acI (sets.drop j) ch y = acV acI sets ch b1 ∧ GrownIn w wr (fun k => k = bo)) (fun iv _ => sets.length - (intOf iv).toNat)
    case atStart => exact ⟨0, b1, p, q, Nat.zero_le _, rfl, K1, hb1, hf1, hl1, rfl, g1⟩
    case round =>
      obtain ⟨j, y, p', q', hj, rfl, K2, hy, hfy, hyl, hpk, g2⟩ := hrel
      clear K1 hb1 hf1 g1
      have G := K2.cell
      have hmm : ch.length + sets.length ≤ 64 := by have := HM.out; omega
      by_cases hlt : j < sets.length
      · have hlt2 : (j : Int) < (sets.length : Int) := by omega
        have hs2 := ints_growIn hs0 g2 hfs
        have hc2 := ints_growIn hc0 g2 hfc
        obtain ⟨a2, n2, off2, c2, he2, _, hix2, hcj, _⟩ := hs2.view Tryd.prog 22 3 Tryd.underlying22 intElem
        injection he2 with e1 _ e3
        subst e1 e3
        have hck := hcj j hlt
        have hik := fun W => hix2 W j hlt
        clear hcj hix2
        have hxb := HSB.out _ (List.getElem_mem hlt)
        have hdr := List.drop_eq_getElem_cons hlt
        have hdl : (sets.drop (j + 1)).length = sets.length - (j + 1) := List.length_drop ..
        have hat : acV acI (sets.drop j) ch y = if ch.length + ((sets.drop (j + 1)).length + 1) ≤ y.length then y else if acI ch sets[j] then acV acI (sets.drop (j + 1)) ch (acV acI (sets.drop (j + 1)) (ch ++ [sets[j]]) (longer y (ch ++ [sets[j]]))) else acV acI (sets.drop (j + 1)) ch y := by rw [hdr, acV]
        rw [hpk] at hat
        have yw := g2.size
        obtain ⟨x, hx⟩ : ∃ x, x = sets[j] := ⟨_, rfl⟩
        rw [← hx] at hck hxb hat
        clear hx hpk hdr
        have hw1 : IntKind.i64.wrap ((ch.length : Int) + (sets.length : Int)) = (ch.length : Int) + (sets.length : Int) := by rw [IntKind.wrap_i64]; omega
        have hw2 : IntKind.i64.wrap ((ch.length : Int) + (sets.length : Int) - (j : Int)) = (ch.length : Int) + (sets.length : Int) - (j : Int) := by rw [IntKind.wrap_i64]; omega
        by_cases hpr : ch.length + ((sets.drop (j + 1)).length + 1) ≤ y.length
        · rw [if_pos hpr] at hat
          have hpr2 : (ch.length : Int) + (sets.length : Int) - (j : Int) ≤ (y.length : Int) := by omega
          have HAT := Lib.hid hat
          clear hat hpr hdl
          go_wp2
          exact bodyPost_end (v := .tuple #[]) (results_none rfl _ _ _) rfl ⟨rfl, _, K2, by rw [← HE.out, HAT.out]; exact hy, by rw [← HE.out, HAT.out]; exact hfy, g2⟩
        · rw [if_neg hpr] at hat
          have hpr2 : ¬ (ch.length : Int) + (sets.length : Int) - (j : Int) ≤ (y.length : Int) := by omega
          have hft := acFits_any ch _ x wr hc2 HCB.out hxb
          cases hT : acI ch x with
          | false =>
            rw [hT, if_neg (by simp)] at hat
            rw [hT] at hft
            have HAT := Lib.hid hat
            have HFT := Lib.hid hft
            clear hat hpr hdl hT hft
            go_wp2_with (go_at_fn 52; refine HFT.out.mono ?_; rintro e w' ⟨rfl, rfl⟩)
            go_roundw
            case rel => exact ⟨j + 1, y, p', q', by omega, by go_num, K2, hy, hfy, hyl, HAT.out.symm, g2⟩
            case measure => simp [intOf]; omega
          | true =>
            rw [hT, if_pos rfl] at hat
            rw [hT] at hft
            have hml : j + 1 ≤ sets.length := hlt
            have hchl : (ch ++ [x]).length = ch.length + 1 := by simp
            obtain ⟨a3, c3, hsl, hs3, hf3⟩ := ints_fromF hs2 22 3 Tryd.underlying22 intElem (j + 1) hml
            have hsl2 := fun W => hsl .i64 W
            rw [show ((j + 1 : Nat) : Int) = (j : Int) + 1 by simp] at hsl2
            have hDm : ∀ e ∈ sets.drop (j + 1), 0 ≤ e ∧ e < 64 := fun e he => HSB.out e (List.mem_of_mem_drop he)
            have hcm : ∀ e ∈ ch ++ [x], 0 ≤ e ∧ e < 64 := fun e he => by
              rcases List.mem_append.1 he with h | h
              · exact HCB.out e h
              · rw [List.mem_singleton] at h; rw [h]; exact hxb
            obtain ⟨D, hD⟩ : ∃ D, D = sets.drop (j + 1) := ⟨_, rfl⟩
            rw [← hD] at hdl hs3 hf3 hDm
            simp only [← hD] at hsl2
            have HDD := Lib.hid hD
            have hRe : acV acI (sets.drop (j + 1)) (ch ++ [x]) (longer y (ch ++ [x])) = acV acI D (ch ++ [x]) (longer y (ch ++ [x])) := by rw [HDD.out]
            clear hD hsl
            obtain ⟨R, hR⟩ : ∃ R, R = acV acI D (ch ++ [x]) (longer y (ch ++ [x])) := ⟨_, rfl⟩
            have hRl : R.length ≤ 64 := by
              rw [hR]
              have h1 := acV_len acI D (ch ++ [x]) (longer y (ch ++ [x]))
              rw [longer_len, hchl] at h1
              omega
            have hrec : ∀ (v6 : Value) (w6 : World), OwnI 3 wr.heap.size w6 v6 (ch ++ [x]) → Below wr.heap.size wr w6 →
                Calls Tryd.prog 71 #[.pointer (some ⟨bo, 0, none⟩), .slice a3 D.length c3, v6] w6 (acPost bo R w6) := fun v6 w6 q1 q2 => by
              rw [hR]
              have zz := K2.lt
              exact IH.out D.length (by rw [hdl]; have := HM.out; omega) _ _ (ch ++ [x]) v6 y _ w6 rfl hDm (hs3.below q2 (Nat.le_refl _)) (fun hne k hk => hfs (fun e => hne (by rw [HDD.out, e]; rfl)) k (hf3 k hk)) q1.ints (fun _ k hk => by have := (q1.lt k hk).1; omega) hcm (K2.keep q2) (hy.below q2 (Nat.le_refl _)) hfy (by rw [hdl, hchl]; omega) hyl
            rw [hRe, ← hR] at hat
            have HREC := Lib.hid hrec
            have HAT := Lib.hid hat
            have HFT := Lib.hid hft
            have hL2 : ch.length + [x].length ≤ 17592186044416 := by simp; omega
            have hXR : InR x := ⟨by omega, by omega⟩
            have hwj : IntKind.i64.wrap ((j : Int) + 1) = (j : Int) + 1 := by rw [IntKind.wrap_i64]; omega
            have HLL2 := Lib.hid hL2
            have HXR := Lib.hid hXR
            have hchb : ch.length ≤ 1048576 := by omega
            have hdl2 := Lib.hid hdl
            clear hrec hat hR hRe hDm hL2 hXR hdl hchl hmm hcm hT hft hpr
            go_wp2_with (go_at_fn 52; refine HFT.out.mono ?_; rintro e w' ⟨rfl, rfl⟩)
            go_region_law
              (first
                | (go_simp; go_at_call 75; refine (clone_any _ ch _ ?_ hchb).mono ?_; (first | (with_reducible exact hc2.drew') | (with_reducible exact (hc2.alloc _).drew')); rintro e w5 ⟨p5, i5, q5, rfl, o5, b5⟩; have own5 := OwnI.mono (B' := wr.heap.size) o5 (by first | omega | (simp; done) | (simp; omega)); first | (have bb5 : Below wr.heap.size wr w5 := ((bl1 wr (.cells #[.int .i64 x] 3)).drewN' 1).after b5 (by first | omega | (simp; done) | (simp; omega)); have lit5 : w5.cell? ⟨wr.heap.size, 0, none⟩ = some (.int .i64 x) := keep b5 (cell_newD wr 3 (.int .i64 x))) | (have bb5 : Below wr.heap.size wr w5 := ((Below.refl wr.heap.size wr).drewN' 1).after b5 (by first | omega | (simp; done) | (simp; omega))))
                | (refine step_put rfl _ _ _ rfl 3 Tryd.underlying22 intElem wr.heap.size (.slice p5 i5 q5) ch rfl (.slice (some ⟨_, 0, none⟩) 1 1) [x] rfl ?_ ?_ HLL2.out wr ?_ (Nat.le_refl _) ?_; (first | (with_reducible exact own5.alloc _) | (with_reducible exact own5)); (refine Ints.one ?_ HXR.out; first | (with_reducible exact cell_new _ _ _ _ _ rfl) | (with_reducible exact lit5)); (first | (with_reducible exact bb5.alloc bb5.size _) | (with_reducible exact bb5)); intro v6 w6 o6 b6 _)
                | (go_simp; go_at_call 71; refine (HREC.out _ w6 o6 b6).mono ?_; rintro e7 w7 ⟨rfl, bv7, K7, hy7, hf7, g7⟩))
            all_goals
              obtain ⟨p7, c7, rfl⟩ := hy7.shape
              have g7' := g2.trans ((GrownIn.of_below (P := fun k => k = bo) b6).trans g7)
              have hat2 : acV acI D ch R = acV acI sets ch b1 := by rw [HAT.out, HDD.out]
              have HAT2 := Lib.hid hat2
              clear hat2 G
              go_wp2
              go_roundw
              case rel => exact ⟨j + 1, R, p7, c7, by omega, by go_num, K7, hy7, hf7, hRl, by rw [← HDD.out]; exact HAT2.out, g7'⟩
              case measure => simp [intOf]; omega
      · have hlt2 : ¬ (j : Int) < (sets.length : Int) := by omega
        have hj2 : j = sets.length := by omega
        have hpk2 : y = acV acI sets ch (longer bs ch) := by rw [← HE.out, ← hpk, hj2, List.drop_length]; rfl
        have HPK := Lib.hid hpk2
        clear hpk hpk2 hj2
        go_wp2
        exact bodyPost_end (v := .tuple #[]) (results_none rfl _ _ _) rfl ⟨rfl, _, K2, by rw [← HPK.out]; exact hy, by rw [← HPK.out]; exact hfy, g2⟩
  case first =>
    by_cases hgt : bs.length < ch.length
    · have hgt2 : (bs.length : Int) < (ch.length : Int) := by omega
      have hlo : longer bs ch = ch := by unfold longer; rw [if_pos hgt]
      have HLO := Lib.hid hlo
      have hne : ch ≠ [] := by intro e; subst e; simp at hgt
      have HNE := Lib.hid hne
      clear hlo hgt hne
      go_wp2_with fail
      refine (clone_any _ ch w hc0 (by omega)).mono ?_
      rintro e w1 ⟨pc, ic, qc, rfl, oc, bc⟩
      have hic : ic = ch.length := oc.ints.capLe.1
      subst hic
      have K1 := K.keep bc
      have G1 := K1.cell
      have F1 := K1.frozen
      have z1 := K1.lt
      clear G
      go_wp2
      go_meet
      have KF : Blk (w1.setCell ⟨bo, 0, none⟩ (.slice pc ch.length qc)) bo 78 #[.slice pc ch.length qc, .func (.func 52) #[] #[]] := by
        have := K1.set 0 (.slice pc ch.length qc)
        simpa using this
      have gF : w1.grownBy (w1.setCell ⟨bo, 0, none⟩ (.slice pc ch.length qc)) (some bo) := grow_set (World.grownBy.refl _ _) 0 _
      have hfar : Up bo (.slice pc ch.length qc) ch := fun _ k hk => by have := (oc.lt k hk).1; omega
      have hI := (oc.setFar ⟨bo, 0, none⟩ (fun e => by have := (oc.lt bo e).1; omega) (.slice pc ch.length qc)).ints
      exact ⟨pc, qc, by rw [HLO.out]; exact KF, by rw [HLO.out]; exact hI, by rw [HLO.out]; exact hfar, (GrownIn.of_below bc).trans (GrownIn.of_row gF (fun k hk => (Option.some.inj hk).symm))⟩
    · have hgt2 : ¬ (bs.length : Int) < (ch.length : Int) := by omega
      have hlo : longer bs ch = bs := by unfold longer; rw [if_neg hgt]
      have HLO := Lib.hid hlo
      clear hlo hgt
      go_wp2_with fail
      go_meet
      exact ⟨ab, cb, by rw [HLO.out]; exact K, by rw [HLO.out]; exact hb, by rw [HLO.out]; exact hfb, GrownIn.refl _ _⟩
end Go.Proofs.YtelmokapdkepbaaDoor
end
