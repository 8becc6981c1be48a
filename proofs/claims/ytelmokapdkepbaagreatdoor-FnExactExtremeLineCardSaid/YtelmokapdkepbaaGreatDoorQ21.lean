/- Sets as texts: both programs. -/
import Derived.Test.YtelmokapdkepbaaGreatDoorQ20
section
namespace Go.Proofs.YtelmokapdkepbaaGreatDoor
open Go.RowKit Go.G5

def dashB : ByteArray := ⟨#[45]⟩
def setOk (n s : Int) : Bool := inB n 0 6 && isSet n.toNat s
def setTx (n s : Int) : ByteArray := if setOk n s = true then (if s = 0 then dashB else joinB comma ((elL s).map itoaB)) else ByteArray.empty
theorem setOk_true {n s : Int} (h : setOk n s = true) : 0 ≤ n ∧ n ≤ 6 ∧ 0 ≤ s ∧ s < 64 := by
  unfold setOk at h
  rw [Bool.and_eq_true] at h
  have h1 := inB_true.1 h.1
  have h2 := isSet_true.1 h.2
  have := pow_le64 h1.1 h1.2
  exact ⟨h1.1, h1.2, h2.1, by omega⟩
theorem elL_nil : ∀ s : Nat, s < 64 → (famOf s 6 = [] ↔ s = 0) := by decide +kernel
theorem elL_nil' (s : Int) (h0 : 0 ≤ s) (h : s < 64) : elL s = [] ↔ s = 0 := by
  unfold elL
  rw [elL_nil s.toNat (by omega)]
  omega
theorem elL_inR (s : Int) : ∀ x ∈ elL s, InR x := fun x hx => by
  have := elL_bd6 s x hx
  exact ⟨by omega, by omega⟩
theorem setTx_size (n s : Int) : (setTx n s).size ≤ 132 := by
  unfold setTx
  split
  · split
    · show 1 ≤ 132; omega
    · have h1 := commas_size (elL s) (elL_inR s)
      have h2 := elL_len6 s
      omega
  · simp
theorem setTx_ne (n s : Int) (h : setOk n s = true) : setTx n s ≠ ByteArray.empty := by
  unfold setTx
  rw [if_pos h]
  have hs := setOk_true h
  split
  · intro e
    have := congrArg ByteArray.size e
    exact absurd this (by decide)
  · rename_i h0
    rw [Ne, commas_emp, elL_nil' s hs.2.2.1 hs.2.2.2]
    exact h0
set_option maxHeartbeats 1000000 in
set_option maxRecDepth 100000 in
theorem fmtSetI_any (n s : Int) (w : World) (hp : Pow w) :
    Calls Tryz.prog 36 #[.int .i64 n, .int .i64 s] w fun e w' => e = .returned (.string (setTx n s)) ∧ Below w.heap.size w w' := by
  have hwi := within_any n 0 6 w
  cases h1 : inB n 0 6 with
  | false =>
    have hx : setTx n s = ByteArray.empty := by unfold setTx setOk; rw [h1]; rfl
    have HX := Lib.hid hx
    rw [h1] at hwi
    have HW := Lib.hid hwi
    clear hwi hx h1
    go_enter Tryz.func36, Tryz.ntmps36
    go_wp2_with fail
    refine HW.out.mono ?_
    rintro e w1 ⟨rfl, rfl⟩
    go_wp2
    go_ret
    exact ⟨ret_str HX.out.symm, Below.refl _ _⟩
  | true =>
    have hb := inB_true.1 h1
    have his := isSetOf_i n s w hb.1 (by omega)
    rw [h1] at hwi
    have HW := Lib.hid hwi
    cases h2 : isSet n.toNat s with
    | false =>
      have hx : setTx n s = ByteArray.empty := by unfold setTx setOk; rw [h1, h2]; rfl
      rw [h2] at his
      have HX := Lib.hid hx
      have HI := Lib.hid his
      clear hwi hx h1 h2 his
      go_enter Tryz.func36, Tryz.ntmps36
      go_wp2_with fail
      refine HW.out.mono ?_
      rintro e w1 ⟨rfl, rfl⟩
      go_wp2_with fail
      refine HI.out.mono ?_
      rintro e w1 ⟨rfl, rfl⟩
      go_wp2
      go_ret
      exact ⟨ret_str HX.out.symm, Below.refl _ _⟩
    | true =>
      have hok : setOk n s = true := by unfold setOk; rw [h1, h2]; rfl
      obtain ⟨_, _, hs0, hs64⟩ := setOk_true hok
      rw [h2] at his
      have HI := Lib.hid his
      by_cases hz : s = 0
      · have hx : setTx n s = dashB := by unfold setTx; rw [if_pos hok, if_pos hz]
        have HX := Lib.hid hx
        have hz2 : (s == 0) = true := by simpa using hz
        clear hwi hx h1 h2 his hok hz
        go_enter Tryz.func36, Tryz.ntmps36
        go_wp2_with fail
        refine HW.out.mono ?_
        rintro e w1 ⟨rfl, rfl⟩
        go_wp2_with fail
        refine HI.out.mono ?_
        rintro e w1 ⟨rfl, rfl⟩
        go_wp2
        go_ret
        exact ⟨ret_str HX.out.symm, Below.refl _ _⟩
      · have hx : setTx n s = joinB comma ((elL s).map itoaB) := by unfold setTx; rw [if_pos hok, if_neg hz]
        have HX := Lib.hid hx
        have hz2 : (s == 0) = false := by simpa using hz
        have HE := Lib.hid (elementsOf_i s w hs0 hs64)
        clear hwi hx h1 h2 his hok hz
        go_enter Tryz.func36, Tryz.ntmps36
        go_wp2_with fail
        refine HW.out.mono ?_
        rintro e w1 ⟨rfl, rfl⟩
        go_wp2_with fail
        refine HI.out.mono ?_
        rintro e w1 ⟨rfl, rfl⟩
        go_wp2_with fail
        refine HE.out.mono ?_
        rintro e w1 ⟨ad, i, cp, rfl, o1, b1⟩
        have HJ := Lib.hid (joinIntsI_any (elL s) _ w1 o1.ints (by have := elL_len6 s; omega) (hp.keep b1))
        go_wp2_with fail
        refine HJ.out.mono ?_
        rintro e w2 ⟨rfl, b2⟩
        go_wp2
        go_ret
        exact ⟨ret_str HX.out.symm, b1.after b2 b1.size⟩
set_option maxHeartbeats 1000000 in
set_option maxRecDepth 100000 in
theorem fmtSetS_any (n s : Int) (w : World) :
    Calls Tryz.prog 23 #[.int .i64 n, .int .i64 s] w fun e w' => e = .returned (.string (setTx n s)) ∧ Below w.heap.size w w' := by
  have hwi := l1In_any n 0 6 w
  cases h1 : inB n 0 6 with
  | false =>
    have hx : setTx n s = ByteArray.empty := by unfold setTx setOk; rw [h1]; rfl
    have HX := Lib.hid hx
    rw [h1] at hwi
    have HW := Lib.hid hwi
    clear hwi hx h1
    go_enter Tryz.func23, Tryz.ntmps23
    go_wp2_with fail
    refine HW.out.mono ?_
    rintro e w1 ⟨rfl, rfl⟩
    go_wp2
    go_ret
    exact ⟨ret_str HX.out.symm, Below.refl _ _⟩
  | true =>
    have hb := inB_true.1 h1
    have hfu := l2Full_i n w hb.1 (by omega)
    have his := l1In_any s 0 (2 ^ n.toNat - 1) w
    rw [isSet_inB] at his
    obtain ⟨f, hf⟩ : ∃ f : Int, f = 2 ^ n.toNat - 1 := ⟨_, rfl⟩
    rw [← hf] at hfu his
    rw [h1] at hwi
    have HW := Lib.hid hwi
    have HFU := Lib.hid hfu
    clear hf hfu
    cases h2 : isSet n.toNat s with
    | false =>
      have hx : setTx n s = ByteArray.empty := by unfold setTx setOk; rw [h1, h2]; rfl
      rw [h2] at his
      have HX := Lib.hid hx
      have HI := Lib.hid his
      clear hwi hx h1 h2 his
      go_enter Tryz.func23, Tryz.ntmps23
      go_wp2_with fail
      refine HW.out.mono ?_
      rintro e w1 ⟨rfl, rfl⟩
      go_wp2_with fail
      refine HFU.out.mono ?_
      rintro e w1 ⟨rfl, rfl⟩
      go_wp2_with fail
      refine HI.out.mono ?_
      rintro e w1 ⟨rfl, rfl⟩
      go_wp2
      go_ret
      exact ⟨ret_str HX.out.symm, Below.refl _ _⟩
    | true =>
      have hok : setOk n s = true := by unfold setOk; rw [h1, h2]; rfl
      obtain ⟨_, _, hs0, hs64⟩ := setOk_true hok
      rw [h2] at his
      have HI := Lib.hid his
      have HOK := Lib.hid hok
      have HE := Lib.hid (l2List_i s w hs0 hs64)
      obtain ⟨l, hl⟩ : ∃ l, l = elL s := ⟨_, rfl⟩
      have hl6 : l.length ≤ 1000 := by rw [hl]; have := elL_len6 s; omega
      have hln : (l = []) = (s = 0) := by rw [hl]; exact propext (elL_nil' s hs0 hs64)
      have hlx : setTx n s = if l = [] then dashB else joinB comma (l.map itoaB) := by
        unfold setTx; rw [if_pos hok, hl]; simp only [elL_nil' s hs0 hs64]
      have HLX := Lib.hid hlx
      rw [← hl] at HE
      clear hwi h1 h2 his hok hln hlx hl
      go_enter Tryz.func23, Tryz.ntmps23
      go_wp2_with fail
      refine HW.out.mono ?_
      rintro e w1 ⟨rfl, rfl⟩
      go_wp2_with fail
      refine HFU.out.mono ?_
      rintro e w1 ⟨rfl, rfl⟩
      go_wp2_with fail
      refine HI.out.mono ?_
      rintro e w1 ⟨rfl, rfl⟩
      go_wp2_with fail
      refine HE.out.mono ?_
      rintro e w1 ⟨ad, i, cp, rfl, o1, b1⟩
      have hv := o1.ints
      have hin := hv.inR
      have hi : i = l.length := hv.capLe.1
      subst hi
      obtain ⟨a, b, off, c, hve, hlen, hix, hc, hb⟩ := hv.view Tryz.prog 22 3 Tryz.underlying22 intElem
      injection hve with e1 _ e3
      subst e1 e3
      have HC := Lib.hid hc
      have HIN := Lib.hid hin
      have HIX := Lib.hid hix
      have HB1 := Lib.hid b1
      clear hc hin hix hlen hv o1 b1
      go_wp2_with fail
      go_loopw [5, 7] (fun sv iv wr => ∃ (k : Nat) (S : ByteArray), k ≤ l.length ∧ iv = .int .i64 k ∧ sv = .string S ∧ S = joinB comma ((l.take k).map itoaB) ∧ Below w1.heap.size w1 wr) (fun _ iv _ => l.length - (intOf iv).toNat)
      case atStart => exact ⟨0, _, Nat.zero_le _, rfl, rfl, rfl, Below.refl _ _⟩
      case round =>
        obtain ⟨k, S, hk, rfl, rfl, hS, B⟩ := hrel
        obtain ⟨wz, rfl⟩ : ∃ q : World, q = wr := ⟨_, rfl⟩
        have hSs : S.size ≤ 22000 := by rw [hS]; exact commas_take l k HIN.out hl6 hk
        by_cases hlt : k < l.length
        · have hlt2 : (k : Int) < (l.length : Int) := by omega
          have hck := cells_below HC.out hb B (Nat.le_refl _) k hlt
          have hik := fun W => HIX.out W k hlt
          have hnx := commas_next l k hlt
          have hxr := HIN.out l[k] (List.getElem_mem hlt)
          rw [← hS] at hnx
          have hS0 : k = 0 → S = ByteArray.empty := fun h => by rw [hS, h]; rfl
          obtain ⟨x, hx⟩ : ∃ x, x = l[k] := ⟨_, rfl⟩
          rw [← hx] at hck hnx hxr
          have hT := itoaB_size x hxr
          have hF := fmtS_any x hxr wz
          obtain ⟨T, hTe⟩ : ∃ T, T = itoaB x := ⟨_, rfl⟩
          rw [← hTe] at hnx hT hF
          have HF := Lib.hid hF
          have HNX := Lib.hid hnx
          clear hF hnx hx hTe hS
          by_cases hk0 : k = 0
          · have hSe := hS0 hk0
            subst hSe
            have HK0 := Lib.hid hk0
            have hgt : ¬ 0 < (k : Int) := by omega
            have hgt2 : ¬ 0 < k := by omega
            clear hS0 hk0
            go_wp2_with fail
            refine HF.out.mono ?_
            rintro e w3 ⟨rfl, b3⟩
            have B := B.after b3 B.size
            go_wp2
            go_roundw
            case rel => exact ⟨k + 1, _, by omega, by go_num, rfl, by rw [HNX.out, if_pos HK0.out], B⟩
            case measure => simp [intOf]; omega
          · have hgt : 0 < (k : Int) := by omega
            have hgt2 : 0 < k := by omega
            have hS2 : (S ++ comma).size ≤ 22001 := by rw [ByteArray.size_append]; show S.size + 1 ≤ 22001; omega
            clear hS0
            go_wp2_with fail
            refine HF.out.mono ?_
            rintro e w3 ⟨rfl, b3⟩
            have B := B.after b3 B.size
            go_wp2
            go_roundw
            case rel => exact ⟨k + 1, _, by omega, by go_num, rfl, by rw [HNX.out, if_neg hk0]; rfl, B⟩
            case measure => simp [intOf]; omega
        · have hlt2 : ¬ (k : Int) < (l.length : Int) := by omega
          have hSl : S = joinB comma (l.map itoaB) := by rw [hS, show k = l.length by omega, List.take_length]
          have hem := str_emp S
          have he2 : decide (S = ByteArray.empty) = decide (l = []) := by rw [hSl]; simp only [commas_emp]
          rw [he2] at hem
          have BB := HB1.out.after B HB1.out.size
          cases h0 : decide (l = []) with
          | true =>
            have hl0 : setTx n s = dashB := by rw [HLX.out, if_pos (of_decide_eq_true h0)]
            rw [h0] at hem
            have HL0 := Lib.hid hl0
            clear h0 he2 hSl hl0 hS
            go_wp2
            go_ret
            exact ⟨ret_str HL0.out.symm, BB⟩
          | false =>
            have hl0 : setTx n s = S := by rw [HLX.out, if_neg (of_decide_eq_false h0)]; exact hSl.symm
            rw [h0] at hem
            have HL0 := Lib.hid hl0
            clear h0 he2 hSl hl0 hS
            go_wp2
            go_ret
            exact ⟨ret_str HL0.out.symm, BB⟩
end Go.Proofs.YtelmokapdkepbaaGreatDoor
end
