/- Functions of masses: the reference's. -/
import Derived.Test.YtgdkeaooipmgbaaQ14
section
namespace Go.Proofs.Ytgdkeaooipmgbaa
open Go.RowKit Go.G5

theorem sumTo_bd2 (m : List Int) (s k : Nat) (hk : k ≤ m.length) (h : ∀ j, (hj : j < m.length) → j < k → -100000 ≤ m[j] ∧ m[j] ≤ 100000) : -100000 * (k : Int) ≤ sumTo m s k ∧ sumTo m s k ≤ 100000 * (k : Int) := by
  induction k with
  | zero => simp [sumTo]
  | succ k ih =>
    have h1 := ih (by omega) (fun j hj hjk => h j hj (by omega))
    have h2 := h k (by omega) (by omega)
    rw [sumTo, List.getD_eq_getElem?_getD, List.getElem?_eq_getElem (show k < m.length by omega), Option.getD_some]
    split <;> omega

theorem l2Made_yes (w : World) (n : Int) (ad : Option Addr) (i cp : Nat) (l : List Int) (hv : Ints w (.slice ad i cp) l) (hf : isFunB n l = true) :
    Calls Try.prog 62 #[.int .i64 n, .slice ad i cp] w fun e w' => e = .returned (.tuple #[.agg #[.int .i64 n, .slice ad i cp], .bool true]) ∧ Below w.heap.size w w' := by
  go_enter Try.func62, Try.ntmps62
  go_wp2_with fail
  refine (isFunS_any n l _ _ (hv.below (by repeat (first | exact Below.refl _ _ | (with_reducible refine Below.setCell ?_ (by first | omega | (simp; done) | (simp; omega)) _) | (with_reducible refine Below.alloc ?_ (by first | omega | (simp; done) | (simp; omega)) _) | (with_reducible refine Below.drewN' ?_ _) | (with_reducible refine Below.drew ?_) | (with_reducible assumption) | refine Below.trans ?_ (Below.mono (by assumption) (by first | omega | (simp; done) | (simp; omega))))) (Nat.le_refl _))).mono ?_
  rintro e w1 ⟨rfl, hb⟩
  rw [hf]
  obtain ⟨hc, hff⟩ := bcellN hb (w.heap.size + 1 + 1) (by first | omega | (simp; done) | (simp; omega))
  have z := hb.size
  simp at z
  go_wp2
  exact bodyPost_ret (v := .tuple #[.agg #[.int .i64 n, .slice ad i cp], .bool true]) (by simp [results, Try.results62, go_sem, hc]) rfl ⟨rfl, (by repeat (first | exact Below.refl _ _ | (with_reducible refine Below.setCell ?_ (by first | omega | (simp; done) | (simp; omega)) _) | (with_reducible refine Below.alloc ?_ (by first | omega | (simp; done) | (simp; omega)) _) | (with_reducible refine Below.drewN' ?_ _) | (with_reducible refine Below.drew ?_) | (with_reducible assumption) | refine Below.trans ?_ (Below.mono (by assumption) (by first | omega | (simp; done) | (simp; omega)))))⟩
theorem l2Made_no (w : World) (n : Int) (ad : Option Addr) (i cp : Nat) (l : List Int) (hv : Ints w (.slice ad i cp) l) (hf : isFunB n l = false) :
    Calls Try.prog 62 #[.int .i64 n, .slice ad i cp] w fun e w' => e = .returned (.tuple #[.agg #[.int .i64 0, .slice none 0 0], .bool false]) ∧ Below w.heap.size w w' := by
  go_enter Try.func62, Try.ntmps62
  go_wp2_with fail
  refine (isFunS_any n l _ _ (hv.below (by repeat (first | exact Below.refl _ _ | (with_reducible refine Below.setCell ?_ (by first | omega | (simp; done) | (simp; omega)) _) | (with_reducible refine Below.alloc ?_ (by first | omega | (simp; done) | (simp; omega)) _) | (with_reducible refine Below.drewN' ?_ _) | (with_reducible refine Below.drew ?_) | (with_reducible assumption) | refine Below.trans ?_ (Below.mono (by assumption) (by first | omega | (simp; done) | (simp; omega))))) (Nat.le_refl _))).mono ?_
  rintro e w1 ⟨rfl, hb⟩
  rw [hf]
  obtain ⟨hc, hff⟩ := bcellN hb (w.heap.size + 1 + 1) (by first | omega | (simp; done) | (simp; omega))
  have z := hb.size
  simp at z
  go_wp2
  exact bodyPost_ret (v := .tuple #[.agg #[.int .i64 0, .slice none 0 0], .bool false]) (by simp [results, Try.results62, go_sem, hc]) rfl ⟨rfl, (by repeat (first | exact Below.refl _ _ | (with_reducible refine Below.setCell ?_ (by first | omega | (simp; done) | (simp; omega)) _) | (with_reducible refine Below.alloc ?_ (by first | omega | (simp; done) | (simp; omega)) _) | (with_reducible refine Below.drewN' ?_ _) | (with_reducible refine Below.drew ?_) | (with_reducible assumption) | refine Below.trans ?_ (Below.mono (by assumption) (by first | omega | (simp; done) | (simp; omega)))))⟩

theorem l2Made_any (w : World) (n : Int) (ad : Option Addr) (i cp : Nat) (l : List Int) (hv : Ints w (.slice ad i cp) l) (hf : Bool) (h : isFunB n l = hf) :
    Calls Try.prog 62 #[.int .i64 n, .slice ad i cp] w fun e w' => ∃ ad' i' cp', e = .returned (.tuple #[.agg #[.int .i64 (if hf then n else 0), .slice ad' i' cp'], .bool hf]) ∧ (.slice ad' i' cp' : Value) = (if hf then .slice ad i cp else .slice none 0 0) ∧ Below w.heap.size w w' := by
  cases hf
  · exact (l2Made_no w n ad i cp l hv h).mono fun e w' ⟨h1, h2⟩ => ⟨_, _, _, h1, rfl, h2⟩
  · exact (l2Made_yes w n ad i cp l hv h).mono fun e w' ⟨h1, h2⟩ => ⟨_, _, _, h1, rfl, h2⟩

set_option maxHeartbeats 2000000 in
set_option maxRecDepth 100000 in
theorem fomS_c (w : World) (n : Int) (_ : InR n) (v : Value) (m : List Int) (hv : Ints w v m) (_ : m.length ≤ 1048576) :
    Calls Try.prog 28 #[.int .i64 n, v] w fun e w' =>
      ∃ ad i cp, e = .returned (.tuple #[.agg #[.int .i64 (fomN n m), .slice ad i cp], .bool (fomB n m)]) ∧ OwnI 3 w.heap.size w' (.slice ad i cp) (fomL n m) ∧ Below w.heap.size w w' := by
  obtain ⟨a, b, off, c, rfl, hlen, hix, hc, hb⟩ := hv.view Try.prog 24 3 Try.underlying24 intElem
  by_cases h1 : inB n 0 5 = true ∧ m.length = 2 ^ n.toNat
  rotate_left
  · have hB : fomB n m = false := by
      unfold fomB fomOk
      cases hx : inB n 0 5 with
      | false => rfl
      | true =>
        have : ¬ m.length = 2 ^ n.toNat := fun h => h1 ⟨hx, h⟩
        rw [show (m.length == 2 ^ n.toNat) = false by simpa using this]; rfl
    have hN : fomN n m = 0 := by unfold fomN; rw [hB]; rfl
    have hL : fomL n m = [] := by unfold fomL; rw [hB]; rfl
    rw [hB, hN, hL]
    clear hB hN hL
    cases hx : inB n 0 5 with
    | false =>
      have hwi := fun W => l1In_any n 0 5 W
      rw [hx] at hwi
      clear hx h1 hc hb
      go_enter Try.func28, Try.ntmps28
      go_wp2_with (go_at_call 38; refine (hwi _).mono ?_; rintro e w' ⟨rfl, rfl⟩)
      refine bodyPost_ret (v := .tuple #[.agg #[.int .i64 0, .slice none 0 0], .bool false]) (by simp [results, Try.results28, go_sem]) rfl ⟨none, 0, 0, rfl, OwnI.nil _ _ _, (by repeat (first | exact Below.refl _ _ | (with_reducible refine Below.setCell ?_ (by first | omega | (simp; done) | (simp; omega)) _) | (with_reducible refine Below.alloc ?_ (by first | omega | (simp; done) | (simp; omega)) _) | (with_reducible refine Below.drewN' ?_ _) | (with_reducible refine Below.drew ?_) | (with_reducible assumption) | refine Below.trans ?_ (Below.mono (by assumption) (by first | omega | (simp; done) | (simp; omega)))))⟩
    | true =>
      have h2 : ¬ m.length = 2 ^ n.toNat := fun h => h1 ⟨hx, h⟩
      obtain ⟨hn0, hn5⟩ := inB_true.1 hx
      obtain ⟨k, rfl⟩ : ∃ k : Nat, n = k := ⟨n.toNat, by omega⟩
      have hwi := fun W => l1In_any (k : Int) 0 5 W
      rw [hx] at hwi
      have hp0 := two_pow k 5 (by omega)
      have hp1 : (2 : Int) ^ k ≤ 32 := by have := hp0.1; simpa using this
      have hp2 := hp0.2
      have ht : ((m.length : Int) != 2 ^ k) = true := by rw [show (2 : Int) ^ k = ((2 ^ k : Nat) : Int) by simp]; simp; exact_mod_cast h2
      clear h2 h1 hx hp0 hc hb
      go_enter Try.func28, Try.ntmps28
      go_wp2_with (go_at_call 38; refine (hwi _).mono ?_; rintro e w' ⟨rfl, rfl⟩)
      refine bodyPost_ret (v := .tuple #[.agg #[.int .i64 0, .slice none 0 0], .bool false]) (by simp [results, Try.results28, go_sem]) rfl ⟨none, 0, 0, rfl, OwnI.nil _ _ _, (by repeat (first | exact Below.refl _ _ | (with_reducible refine Below.setCell ?_ (by first | omega | (simp; done) | (simp; omega)) _) | (with_reducible refine Below.alloc ?_ (by first | omega | (simp; done) | (simp; omega)) _) | (with_reducible refine Below.drewN' ?_ _) | (with_reducible refine Below.drew ?_) | (with_reducible assumption) | refine Below.trans ?_ (Below.mono (by assumption) (by first | omega | (simp; done) | (simp; omega)))))⟩
  obtain ⟨hx, h2⟩ := h1
  obtain ⟨hn0, hn5⟩ := inB_true.1 hx
  obtain ⟨k, rfl⟩ : ∃ k : Nat, n = k := ⟨n.toNat, by omega⟩
  have hwi := fun W => l1In_any (k : Int) 0 5 W
  rw [hx] at hwi
  have hp0 := two_pow k 5 (by omega)
  have hp1 : (2 : Int) ^ k ≤ 32 := by have := hp0.1; simpa using this
  have hp2 := hp0.2
  have h2' : m.length = 2 ^ k := h2
  have ht : ((m.length : Int) != 2 ^ k) = false := by rw [show (2 : Int) ^ k = ((2 ^ k : Nat) : Int) by simp, h2']; simp
  have hl32 : m.length ≤ 32 := by rw [h2']; exact Nat.pow_le_pow_right (by decide) (show k ≤ 5 by omega)
  have HX := Lib.hid hx
  have H2 := Lib.hid h2'
  have r0 := (BoxAt.new w (.int .i64 0) (.slice none 0 0) 26)
  have o0 : OwnI 3 (w.heap.size + 1) ((w.alloc (.cells #[.int .i64 0, .slice none 0 0] 26)).alloc (.cells #[] 3)) (.slice (some ⟨w.heap.size + 1, 0, none⟩) 0 0) [] := by
    have := OwnI.lit0 (E := 3) (B := w.heap.size + 1) (w.alloc (.cells #[.int .i64 0, .slice none 0 0] 26)) (by simp)
    simpa using this
  have r1 := r0.keep (bl1 _ (.cells #[] 3))
  clear h2 h2' hx hp0 r0
  go_enter Try.func28, Try.ntmps28
  go_wp2_with (go_at_call 38; refine (hwi _).mono ?_; rintro e w' ⟨rfl, rfl⟩)
  go_loopw [6, 7] (fun out i wr => ∃ (s : Nat) (ad : Option Addr) (nn cp : Nat), s ≤ m.length ∧ i = .int .i64 s ∧ out = .slice ad nn cp ∧ OwnI 3 (w.heap.size + 1) wr (.slice ad nn cp) (madeL (fomF m) s) ∧ Below w.heap.size w wr ∧
      BoxAt wr w.heap.size (.int .i64 0) (.slice none 0 0) ∧ (∀ q, (hq : q < m.length) → q < s → -100000 ≤ m[q] ∧ m[q] ≤ 100000))
    (fun _ i _ => m.length - (intOf i).toNat)
  case atStart => exact ⟨0, _, _, _, Nat.zero_le _, rfl, rfl, o0, (by repeat (first | exact Below.refl _ _ | (with_reducible refine Below.setCell ?_ (by first | omega | (simp; done) | (simp; omega)) _) | (with_reducible refine Below.alloc ?_ (by first | omega | (simp; done) | (simp; omega)) _) | (with_reducible refine Below.drewN' ?_ _) | (with_reducible refine Below.drew ?_) | (with_reducible assumption) | refine Below.trans ?_ (Below.mono (by assumption) (by first | omega | (simp; done) | (simp; omega))))), r1, fun q _ h => by omega⟩
  case round =>
    obtain ⟨s, ad, nn, cp, hs, rfl, rfl, ho, B, R, hall⟩ := hrel
    clear o0 r1
    have HO := Lib.hid ho
    have HR := Lib.hid R
    have HA := Lib.hid hall
    obtain ⟨e0, e1, g0, g1⟩ := R
    have zr := HR.out.lt
    clear ho hall
    by_cases hlt : s < m.length
    · have hck := cells_below hc hb B (Nat.le_refl _)
      go_wp2_with fail
      go_loop [8, 9] (fun x t => ∃ q : Nat, q ≤ s + 1 ∧ t = .int .i64 q ∧ x = .int .i64 (sumTo m s q) ∧ (s < q → -100000 ≤ m[s] ∧ m[s] ≤ 100000)) (fun _ t => s + 1 - (intOf t).toNat)
      case atStart => exact ⟨0, Nat.zero_le _, rfl, rfl, fun h => by omega⟩
      case round =>
        obtain ⟨q, hq, rfl, rfl, hsq⟩ := hrel
        have hall : ∀ j, (hj : j < m.length) → j < q → -100000 ≤ m[j] ∧ m[j] ≤ 100000 := fun j hj hjq => by
          by_cases hjs : j < s
          · exact HA.out j hj hjs
          · have : j = s := by omega
            subst this
            exact hsq hjq
        have hbd := sumTo_bd2 m s q (by omega) hall
        have HALL := Lib.hid hall
        obtain ⟨x, hx⟩ : ∃ x, x = sumTo m s q := ⟨_, rfl⟩
        rw [← hx] at hbd ⊢
        have HXX := Lib.hid hx
        have HSQ := Lib.hid hsq
        clear hx hall hsq
        by_cases hks : q < s + 1
        · have hkl : q < m.length := by omega
          have hckk := hck q hkl
          have hstep : sumTo m s (q + 1) = if ndiff q s = 0 then x + m[q] else x := by
            rw [sumTo, ← HXX.out, List.getD_eq_getElem?_getD, List.getElem?_eq_getElem hkl, Option.getD_some]
          have HS := Lib.hid hstep
          have hAq := bitsA q s (by omega) (by omega)
          clear hstep
          by_cases hz : q &&& s = q
          · have htt : (((q &&& s : Nat) : Int) != (q : Int)) = false := by simp [hz]
            have hnd : ndiff q s = 0 := (ndiff_zero q s).2 hz
            have HZ := Lib.hid hnd
            clear hz hnd
            have hwq := fun W => l1In_any m[q] (-100000) 100000 W
            cases hin : inB m[q] (-100000) 100000 with
            | true =>
              have hmq := inB_true.1 hin
              have hm0 : -100000 ≤ m[q] := hmq.1
              have hm1 : m[q] ≤ 100000 := hmq.2
              rw [hin] at hwq
              have hsq2 : s < q + 1 → -100000 ≤ m[s] ∧ m[s] ≤ 100000 := fun h => by have e : q = s := (by omega); subst e; exact hmq
              have HSQ2 := Lib.hid hsq2
              clear hmq hin hwi ht hsq2
              go_wp2_with (go_at_call 38; refine (hwq _).mono ?_; rintro e w' ⟨rfl, rfl⟩)
              go_round
              case rel => exact ⟨q + 1, by omega, by go_num, by rw [HS.out, if_pos HZ.out], HSQ2.out⟩
              case measure => simp [intOf]; omega
            | false =>
              have hB : fomB k m = false := by
                unfold fomB fomOk
                rw [show allIn m (-100000) 100000 = false from all_false_at _ m q hkl hin]; simp
              have hN : fomN k m = 0 := by unfold fomN; rw [hB]; rfl
              have hL : fomL k m = [] := by unfold fomL; rw [hB]; rfl
              rw [hin] at hwq
              have HB := Lib.hid hB
              have HN := Lib.hid hN
              have HL := Lib.hid hL
              clear hin hwi ht hB hN hL
              go_wp2_with (go_at_call 38; refine (hwq _).mono ?_; rintro e w' ⟨rfl, rfl⟩)
              refine bodyPost_ret (v := .tuple #[.agg #[.int .i64 0, .slice none 0 0], .bool false]) (by simp [results, Try.results28, go_sem, e0, e1]) rfl ⟨none, 0, 0, by rw [HB.out, HN.out], by rw [HL.out]; exact OwnI.nil _ _ _, Below.setCell (Below.setCell B (Nat.le_refl _) _) (Nat.le_refl _) _⟩
          · have htt : (((q &&& s : Nat) : Int) != (q : Int)) = true := by simp; omega
            have hnd : ndiff q s ≠ 0 := fun h => hz ((ndiff_zero q s).1 h)
            go_wp2_with fail
            go_round
            case rel => exact ⟨q + 1, by omega, by go_num, by rw [HS.out, if_neg hnd], fun h => absurd (show q &&& s = q by rw [show q = s by omega]; exact Nat.and_self s) hz⟩
            case measure => simp [intOf]; omega
        · have hqs : q = s + 1 := by omega
          have hsr := HSQ.out (by omega)
          have hxF : x = fomF m s := by rw [HXX.out, hqs]; rfl
          have HXF := Lib.hid hxF
          have hlen' : (madeL (fomF m) s).length = s := by simp [madeL]
          have hlk : (madeL (fomF m) s).length ≤ 64 := by omega
          have hrow := HO.out.lt
          have hsr0 : -100000 ≤ m[s] := hsr.1
          have hsr1 : m[s] ≤ 100000 := hsr.2
          clear hqs hsr hxF hlen'
          go_wp2_with (at_builtin; refine wpList_appendI rfl _ _ _ rfl 3 Try.underlying24 intElem (w.heap.size + 1) _ _ x wr.heap.size rfl rfl (by simp) (HO.out.alloc _) ⟨by omega, by omega⟩ (by omega) (by simp; omega) ?_; intro v' w6 hown hgr; obtain ⟨av, nv, cv, rfl⟩ := hown.shape3)
          have R6 := (HR.out.keep (bl1 _ (.cells #[.int .i64 x] 3))).grow hgr (fun e => by have := (hrow _ e).1; omega)
          have B6 : Below w.heap.size w w6 := (B.alloc B.size (.cells #[.int .i64 x] 3)).grown hgr (by simp; omega) (fun q hq => by have := (hrow q hq).1; omega)
          have HW := Lib.hid hown
          clear hown hgr hrow
          go_wp2
          go_roundw
          case rel =>
            refine ⟨s + 1, av, nv, cv, by omega, by go_num, rfl, by rw [madeL_succ, ← HXF.out]; exact HW.out, B6, R6, fun j hj hjs => ?_⟩
            by_cases h : j < s
            · exact HA.out j hj h
            · have : j = s := by omega
              subst this
              exact ⟨hsr0, hsr1⟩
          case measure => simp [intOf]; omega
    · have hsl : s = 2 ^ k := by have := H2.out; omega
      have hall : allIn m (-100000) 100000 = true := by
        unfold allIn
        rw [List.all_eq_true]
        intro y hy
        obtain ⟨j, hj, rfl⟩ := List.getElem_of_mem hy
        exact inB_true.2 (HA.out j hj (by omega))
      have hB : fomB k m = isFunB k (madeL (fomF m) s) := by
        unfold fomB fomOk fomV; rw [HX.out, hall, show (m.length == 2 ^ (k : Int).toNat) = true by simpa using H2.out, hsl]; rfl
      have hN : fomN k m = if isFunB k (madeL (fomF m) s) then (k : Int) else 0 := by unfold fomN; rw [hB]
      have hL : fomL k m = if isFunB k (madeL (fomF m) s) then madeL (fomF m) s else [] := by unfold fomL; rw [hB, hsl]; rfl
      obtain ⟨bb, hbb⟩ : ∃ b, b = isFunB (k : Int) (madeL (fomF m) s) := ⟨_, rfl⟩
      rw [← hbb] at hB hN hL
      obtain ⟨nn', hnn⟩ : ∃ n, n = (if bb = true then (k : Int) else 0) := ⟨_, rfl⟩
      obtain ⟨ll, hll⟩ : ∃ n, n = (if bb = true then madeL (fomF m) s else []) := ⟨_, rfl⟩
      rw [← hnn] at hN
      rw [← hll] at hL
      have HBB := Lib.hid hbb
      have HNN := Lib.hid hnn
      have HLL := Lib.hid hll
      have HB := Lib.hid hB
      have HN := Lib.hid hN
      have HL := Lib.hid hL
      clear hbb hnn hll hB hN hL hall hsl hc hb hix ht hwi
      go_wp2_with fail
      refine (l2Made_any _ _ _ _ _ _ HO.out.ints bb HBB.out.symm).mono ?_
      rintro e w5 ⟨ad', i', cp', rfl, hsv, hb5⟩
      rw [← HNN.out]
      have HSV := Lib.hid hsv
      have B5 := B.after hb5 B.size
      have z5 := hb5.size
      have R5 := HR.out.keep hb5
      have o5 := HO.out.keep hb5
      have HO5 := Lib.hid o5
      have zr5 := R5.lt
      have zne : w.heap.size ≠ w5.heap.size := by omega
      clear hsv o5 e0 e1 g0 g1 z5 zr
      obtain ⟨e0, e1, g0, g1⟩ := R5
      go_wp2_with fail
      refine bodyPost_ret (v := .tuple #[.agg #[.int .i64 nn', .slice ad' i' cp'], .bool bb]) (by simp [results, Try.results28, go_sem, e0, e1, zr5]) rfl ⟨ad', i', cp', by rw [HB.out, HN.out], ?_, (by repeat (first | exact Below.refl _ _ | (with_reducible refine Below.setCell ?_ (by first | omega | (simp; done) | (simp; omega)) _) | (with_reducible refine Below.alloc ?_ (by first | omega | (simp; done) | (simp; omega)) _) | (with_reducible refine Below.drewN' ?_ _) | (with_reducible refine Below.drew ?_) | (with_reducible assumption) | refine Below.trans ?_ (Below.mono (by assumption) (by first | omega | (simp; done) | (simp; omega)))))⟩
      have hfin : OwnI 3 (w.heap.size + 1) w5 (.slice ad' i' cp') ll := by
        rw [HSV.out, HLL.out]
        cases bb
        · exact OwnI.nil _ _ _
        · exact HO5.out
      rw [HL.out]
      exact ((((hfin.setBelow (by first | omega | (simp; done) | (simp; omega)) _).setBelow (by first | omega | (simp; done) | (simp; omega)) _).alloc _).mono (by omega))
end Go.Proofs.Ytgdkeaooipmgbaa
end
