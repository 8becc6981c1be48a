/- Flats: the first program. Covers by bases: both programs. -/
import Derived.Test.YtpaoiiiceekkkaaDoorQ35
import Derived.Lib.MinMax
section
namespace Go.Proofs.YtpaoiiiceekkkaaDoor
open Go.RowKit Go.G5

theorem nat_beq (t s : Nat) : ((t : Int) == (s : Int)) = decide (t = s) := by
  by_cases h : t = s
  · subst h; simp
  · rw [decide_eq_false h, beq_eq_false_iff_ne]; omega
theorem isSet_yes {N s : Nat} (h : s < 2 ^ N) : isSet N (s : Int) = true := by
  unfold isSet
  have : ((2 ^ N : Nat) : Int) = (2 : Int) ^ N := by simp
  simp only [Bool.and_eq_true, decide_eq_true_eq]
  omega
set_option maxHeartbeats 2000000 in
set_option maxRecDepth 100000 in
theorem closI_any (w : World) (N : Nat) (v : Value) (l : List Int) (hv : Ints w v l) (hl : l.length ≤ 1048576) (hf : polyB N l = true) (s : Nat) (hs : s < 2 ^ N) :
    Calls Tryd.prog 186 #[.agg #[.int .i64 (N : Int), v], .int .i64 s] w fun e w' => e = .returned (.int .i64 (cloTo l s N)) ∧ Below w.heap.size w w' := by
  have hv0 := hv
  obtain ⟨a, c, rfl⟩ := hv.shape
  have K0 := Blk.new w 31 #[.int .i64 (N : Int), .slice a l.length c]
  obtain ⟨_, hN, h5, hl2, hl32, hlb⟩ := fun_nat (poly_fun hf)
  have hN := Int.ofNat.inj hN
  subst hN
  have hg : ∀ k W, k < N → Ints W (.slice a l.length c) l → Calls Tryd.prog 133 #[.agg #[.int .i64 (N : Int), .slice a l.length c], .int .i64 (s : Int), .int .i64 (k : Int)] W fun e' w' => e' = .returned (.int .i64 (gainL l s k)) ∧ Below W.heap.size W w' := fun k W hk hW => by
    have h1 := setBit_lt s k N hs hk
    exact gain_any N l _ s k W hW (by omega) (by omega) (by omega) (by omega) hlb
  have hclo := cloTo_lt l s N hs
  have HCL := Lib.hid hclo
  have HG := Lib.hid hg
  have HF := Lib.hid hf
  have HIS := Lib.hid (isSet_yes hs)
  have hp5 : (2 : Nat) ^ N ≤ 32 := Nat.pow_le_pow_right (n := 2) (by decide) h5
  obtain ⟨R, hR⟩ : ∃ R, R = cloTo l s N := ⟨_, rfl⟩
  rw [← hR]
  have HR := Lib.hid hR
  clear hclo hg hf hlb hR hl2
  go_enter Tryd.func186, Tryd.ntmps186
  go_wp2_with fail
  refine (polyI_any N l _ _ (hv0.alloc _) hl).mono ?_
  rintro e w1 ⟨rfl, hb1⟩
  rw [HF.out]
  have B1 : Below w.heap.size w w1 := (bl1 _ _).after hb1 (by simp)
  have K1 := K0.keep hb1
  have hv1 := hv0.below B1 (Nat.le_refl _)
  clear hb1 K0
  have G := K1.cell
  go_wp2_with (go_at_call 142; refine (isSetOf_any N s _ (by omega)).mono ?_; rintro e w2 ⟨rfl, rfl⟩; rw [HIS.out])
  go_loopw [5, 20] (fun ov iv wr => ∃ k : Nat, k ≤ N ∧ iv = .int .i64 k ∧ ov = .int .i64 (cloTo l s k) ∧ Below w1.heap.size w1 wr) (fun _ iv _ => N - (intOf iv).toNat)
  case atStart => exact ⟨0, Nat.zero_le _, rfl, rfl, Below.refl _ _⟩
  case round =>
    obtain ⟨k, hk, rfl, rfl, B⟩ := hrel
    obtain ⟨wo, rfl⟩ : ∃ wo : World, wo = wr := ⟨_, rfl⟩
    clear G
    have K := K1.keep B
    have G := K.cell
    by_cases hkN : k < N
    · have hkN2 : (k : Int) < (N : Int) := by omega
      have hst : cloTo l s (k + 1) = if gainL l s k = 0 then setBit (cloTo l s k) k else cloTo l s k := rfl
      have hlt := HCL.out k hk
      have hgk := HG.out k wo hkN (hv1.below B (Nat.le_refl _))
      have hor := setBit_is (cloTo l s k) k (by omega) (by omega)
      obtain ⟨t, ht⟩ : ∃ t, t = cloTo l s k := ⟨_, rfl⟩
      obtain ⟨t2, ht2⟩ : ∃ t2, t2 = setBit t k := ⟨_, rfl⟩
      obtain ⟨x, hx⟩ : ∃ x, x = gainL l s k := ⟨_, rfl⟩
      rw [← ht] at hst hlt hor ⊢
      rw [← ht2] at hst hor
      rw [← hx] at hst hgk
      have HGK := Lib.hid hgk
      have hp64 := two_pow k 6 (by omega)
      have hp1 : (2 : Int) ^ k ≤ 64 := by simpa using hp64.1
      have hp2 := hp64.2
      have he0 : (0 : Int) ≤ (k : Int) := Int.natCast_nonneg _
      clear ht ht2 hx hgk hp64
      by_cases hz : x = 0
      · rw [if_pos hz] at hst
        have hzb : (x == 0) = true := by simp [hz]
        have HST := Lib.hid hst
        clear hst hz
        go_wp2_with (go_at_call 133; refine HGK.out.mono ?_; rintro e w3 ⟨rfl, b3⟩)
        go_roundw
        case rel => exact ⟨k + 1, by omega, by go_num, by rw [HST.out], B.after b3 B.size⟩
        case measure => simp [intOf]; omega
      · rw [if_neg hz] at hst
        have hzb : (x == 0) = false := by simp [hz]
        have HST := Lib.hid hst
        clear hst hz
        go_wp2_with (go_at_call 133; refine HGK.out.mono ?_; rintro e w3 ⟨rfl, b3⟩)
        go_roundw
        case rel => exact ⟨k + 1, by omega, by go_num, by rw [HST.out], B.after b3 B.size⟩
        case measure => simp [intOf]; omega
    · have hkN2 : ¬ (k : Int) < (N : Int) := by omega
      have hkN3 : k = N := by omega
      subst hkN3
      rw [← HR.out]
      go_wp2
      go_ret
      exact ⟨rfl, B1.after B B1.size⟩
set_option maxHeartbeats 1000000 in
set_option maxRecDepth 100000 in
theorem isFlat_any (w : World) (N : Nat) (v : Value) (l : List Int) (hv : Ints w v l) (hl : l.length ≤ 1048576) (hf : polyB N l = true) (s : Nat) (hs : s < 2 ^ N) :
    Calls Tryd.prog 155 #[.agg #[.int .i64 (N : Int), v], .int .i64 s] w fun e w' => e = .returned (.bool (flatB l N s)) ∧ Below w.heap.size w w' := by
  have hv0 := hv
  obtain ⟨a, c, rfl⟩ := hv.shape
  have hc := fun W (h : Ints W (.slice a l.length c) l) => closI_any W N _ l h hl hf s hs
  have hfl := cloTo_flat l s N
  obtain ⟨t, ht⟩ : ∃ t, t = cloTo l s N := ⟨_, rfl⟩
  simp only [← ht] at hc
  rw [← ht] at hfl
  have HC := Lib.hid hc
  have HFL := Lib.hid hfl
  have hs0 : (0 : Int) ≤ (s : Int) := Int.natCast_nonneg _
  clear hc hfl ht
  go_enter Tryd.func155, Tryd.ntmps155
  go_wp2_with fail
  refine (HC.out _ (hv0.alloc _)).mono ?_
  rintro e w1 ⟨rfl, b1⟩
  go_wp2
  go_ret
  exact ⟨ret_bool (by rw [← HFL.out]; exact nat_beq t s), (bl1 _ _).after b1 (by simp)⟩
set_option maxHeartbeats 2000000 in
set_option maxRecDepth 100000 in
theorem flaI_c (w : World) (n : Int) (v : Value) (l : List Int) (hv : Ints w v l) (hl : l.length ≤ 1048576) :
    Calls Tryd.prog 93 #[.agg #[.int .i64 n, v]] w fun e w' => ∃ ad i cp, e = .returned (.tuple #[.slice ad i cp, .bool (polyB n l)]) ∧ OwnI 3 w.heap.size w' (.slice ad i cp) (flaL n l) ∧ Below w.heap.size w w' := by
  have hv0 := hv
  obtain ⟨a, c, rfl⟩ := hv.shape
  have K0 := Blk.new w 31 #[.int .i64 n, .slice a l.length c]
  cases hf : polyB n l with
  | false =>
    have hL : flaL n l = [] := by unfold flaL; rw [hf]; rfl
    have HL := Lib.hid hL
    have HF := Lib.hid hf
    clear hL hf
    go_enter Tryd.func93, Tryd.ntmps93
    go_wp2_with fail
    refine (polyI_any n l _ _ (hv0.alloc _) hl).mono ?_
    rintro e w1 ⟨rfl, hb1⟩
    rw [HF.out]
    go_wp2
    go_ret2
    exact ⟨none, 0, 0, rfl, by rw [HL.out]; exact OwnI.nil _ _ _, (bl1 _ _).after hb1 (by simp)⟩
  | true =>
    obtain ⟨N, rfl, h5, hl2, hl32, hlb⟩ := fun_nat (poly_fun hf)
    have hL : flaL N l = chosen (flatB l N) l.length := by unfold flaL; rw [hf]; rfl
    have hfl := fun (W : World) (h : Ints W (.slice a l.length c) l) (s : Nat) (hs : s < l.length) => isFlat_any W N _ l h hl hf s (by omega)
    obtain ⟨P, hP⟩ : ∃ P, P = flatB l N := ⟨_, rfl⟩
    rw [← hP] at hL
    simp only [← hP] at hfl
    have HL := Lib.hid hL
    have HF := Lib.hid hf
    have HFL := Lib.hid hfl
    clear hL hf hfl hP hlb hl2
    go_enter Tryd.func93, Tryd.ntmps93
    go_wp2_with fail
    refine (polyI_any N l _ _ (hv0.alloc _) hl).mono ?_
    rintro e w1 ⟨rfl, hb1⟩
    rw [HF.out]
    have B1 : Below w.heap.size w w1 := (bl1 _ _).after hb1 (by simp)
    have K1 := K0.keep hb1
    have hv1 := hv0.below B1 (Nat.le_refl _)
    clear hb1 K0
    have G := K1.cell
    go_wp2_with fail
    go_loopw [4, 12] (fun ov iv wr => ∃ (k : Nat) (p : Option Addr) (i q : Nat), k ≤ l.length ∧ iv = .int .i64 k ∧ ov = .slice p i q ∧ OwnI 3 w1.heap.size wr (.slice p i q) (chosen P k) ∧ Below w1.heap.size w1 wr) (fun _ iv _ => l.length - (intOf iv).toNat)
    case atStart => exact ⟨0, _, _, _, Nat.zero_le _, rfl, rfl, OwnI.nil _ _ _, Below.refl _ _⟩
    case round =>
      obtain ⟨k, p, i, q, hk, rfl, rfl, ho, B⟩ := hrel
      obtain ⟨wo, rfl⟩ : ∃ wo : World, wo = wr := ⟨_, rfl⟩
      clear G
      have K := K1.keep B
      have G := K.cell
      by_cases hkl : k < l.length
      · have hkl2 : (k : Int) < (l.length : Int) := by omega
        have hcs := chosen_succ P k
        have hlk : (chosen P k).length ≤ 64 := Nat.le_trans (chosen_len P k) (by omega)
        have HCS := Lib.hid hcs
        clear hcs
        have HFK := Lib.hid (HFL.out wo (hv1.below B (Nat.le_refl _)) k hkl)
        cases hPk : P k with
        | false =>
          have HPK := Lib.hid hPk
          clear hPk
          go_wp2_with fail
          refine HFK.out.mono ?_
          rintro e w3 ⟨rfl, b3⟩
          rw [HPK.out]
          go_wp2
          go_roundw
          case rel => exact ⟨k + 1, p, i, q, by omega, by go_num, rfl, by rw [HCS.out, HPK.out]; exact ho.keep b3, B.after b3 B.size⟩
          case measure => simp [intOf]; omega
        | true =>
          have HPK := Lib.hid hPk
          clear hPk
          go_wp2_with fail
          refine HFK.out.mono ?_
          rintro e w3 ⟨rfl, b3⟩
          rw [HPK.out]
          have ho3 := ho.keep b3
          have B3 := B.after b3 B.size
          have rr := ho3.lt
          go_wp2_with (at_builtin; refine wpList_appendI rfl _ _ _ rfl 3 Tryd.underlying22 intElem w1.heap.size (.slice p i q) (chosen P k) (k : Int) _ rfl rfl (cell_new _ _ _ _ _ rfl) (ho3.alloc _) ⟨by omega, by omega⟩ (by omega) (by have := B3.size; simp; omega) ?_; intro v7 w7 o7 g7; obtain ⟨p7, i7, q7, rfl⟩ := o7.shape3)
          have B7 := (B3.alloc B3.size (.cells #[.int .i64 (k : Int)] 3)).grown g7 (by have := B3.size; simp; omega) (fun z hz => (rr _ hz).1)
          go_roundw
          case rel => exact ⟨k + 1, p7, i7, q7, by omega, by go_num, rfl, by rw [HCS.out, HPK.out]; exact o7, B7⟩
          case measure => simp [intOf]; omega
      · have hkl2 : ¬ (k : Int) < (l.length : Int) := by omega
        have hkl3 : k = l.length := by omega
        subst hkl3
        go_wp2
        go_ret2
        exact ⟨p, i, q, rfl, by rw [HL.out]; exact ho.mono B1.size, B1.after B B1.size⟩
end Go.Proofs.YtpaoiiiceekkkaaDoor
end
section
namespace Go.Proofs.YtpaoiiiceekkkaaDoor
open Go.RowKit Go.G5

set_option maxHeartbeats 2000000 in
set_option maxRecDepth 100000 in
theorem cvI_any (w : World) (n : Int) (v : Value) (l : List Int) (hv : Ints w v l) (hl : l.length ≤ 1048576) :
    Calls Tryd.prog 94 #[.agg #[.int .i64 n, v]] w fun e w' => e = .returned (.tuple #[.int .i64 (cvN n l), .bool (cvB n l)]) ∧ Below w.heap.size w w' := by
  have hv0 := hv
  obtain ⟨a, c, rfl⟩ := hv.shape
  have K0 := Blk.new w 31 #[.int .i64 n, .slice a l.length c]
  cases hf : rankB n l with
  | false =>
    have hO : cvO n l = none := by unfold cvO; rw [hf]; rfl
    have hN : cvN n l = 0 := by unfold cvN; rw [hO]; rfl
    have hB : cvB n l = false := by unfold cvB; rw [hO]; rfl
    have H := Lib.hid (And.intro hN hB)
    have HF := Lib.hid hf
    clear hO hN hB hf
    go_enter Tryd.func94, Tryd.ntmps94
    go_wp2_with fail
    refine (rankI_any n l _ _ (hv0.alloc _) hl).mono ?_
    rintro e w1 ⟨rfl, hb1⟩
    rw [HF.out]
    go_wp2
    go_ret2
    exact ⟨by rw [H.out.1, H.out.2]; rfl, (bl1 _ _).after hb1 (by simp)⟩
  | true =>
    obtain ⟨N, rfl, h5, hl2, hl32, hlb⟩ := fun_nat (rank_fun hf)
    have p0 := Nat.two_pow_pos N
    have hO : cvO N l = cbTo l (l.length - 1) := by unfold cvO; rw [hf]; rfl
    have hge := poly_ge (rank_poly hf)
    have hbd := cbTo_bd l hl32 (fun s hs => ⟨hge s (by omega), by rw [getD_at l s hs]; exact (hlb s hs).2⟩)
    have hlen : 0 < l.length := by omega
    have hxb : ∀ s, (h : s < l.length) → 0 ≤ l[s] ∧ l[s] ≤ 1000 := fun s h => ⟨by rw [← getD_at l s h]; exact hge s (by omega), (hlb s h).2⟩
    have HO := Lib.hid hO
    have HF := Lib.hid hf
    have HBD := Lib.hid hbd
    have HXB := Lib.hid hxb
    clear hO hf hge hbd hlb hl2 p0 hxb
    go_enter Tryd.func94, Tryd.ntmps94
    go_wp2_with fail
    refine (rankI_any N l _ _ (hv0.alloc _) hl).mono ?_
    rintro e w1 ⟨rfl, hb1⟩
    rw [HF.out]
    have B1 : Below w.heap.size w w1 := (bl1 _ _).after hb1 (by simp)
    have K1 := K0.keep hb1
    have hv1 := hv0.below B1 (Nat.le_refl _)
    obtain ⟨av, b, off, cv, hve, _, hix, hc, hb⟩ := hv1.view Tryd.prog 22 3 Tryd.underlying22 intElem
    injection hve with e1 _ e3
    subst e1 e3
    have HC := Lib.hid hc
    have HIX := Lib.hid hix
    have G := K1.cell
    clear hb1 K0 hc hix
    go_wp2_with fail
    go_loopw [4, 5] (fun mv sv wr => ∃ (k : Nat) (m : Int), k < l.length ∧ sv = .int .i64 ((k : Int) + 1) ∧ mv = .int .i64 m ∧ cbTo l k = some m ∧ wr = w1) (fun _ sv _ => l.length + 1 - (intOf sv).toNat)
    case atStart => exact ⟨0, 0, hlen, rfl, rfl, rfl, rfl⟩
    case round =>
      obtain ⟨k, m, hk, rfl, rfl, hcb, rfl⟩ := hrel
      have hmb := HBD.out k m hk hcb
      have hm0 := hmb.1
      have hm1 := hmb.2
      by_cases hlt : k + 1 < l.length
      · have hlt2 : (k : Int) + 1 < (l.length : Int) := by omega
        have hcj := HC.out (k + 1) hlt
        have hij := fun W => HIX.out W (k + 1) hlt
        rw [show (((k + 1 : Nat) : Int)) = (k : Int) + 1 by simp] at hij
        have hxb := HXB.out (k + 1) hlt
        have hg := getD_at l (k + 1) hlt
        have hstep : cbTo l (k + 1) = if l.getD (k + 1) 0 = 0 then none else some (max m (Int.tdiv ((pop (k + 1) : Int) + l.getD (k + 1) 0 - 1) (l.getD (k + 1) 0))) := by rw [cbTo, hcb]
        rw [hg] at hstep
        obtain ⟨x, hx⟩ : ∃ x, x = l[k + 1] := ⟨_, rfl⟩
        rw [← hx] at hcj hxb hstep
        have hx0 := hxb.1
        have hx1 := hxb.2
        clear hx hg hxb hcb hmb
        by_cases hz : x = 0
        · rw [if_pos hz] at hstep
          have hzb : (x == 0) = true := by simp [hz]
          have hO : cvO N l = none := by rw [HO.out]; exact cbTo_none l (k + 1) hstep _ (by omega)
          have hN : cvN N l = 0 := by unfold cvN; rw [hO]; rfl
          have hB : cvB N l = false := by unfold cvB; rw [hO]; rfl
          have H := Lib.hid (And.intro hN hB)
          clear hstep hO hN hB hz
          go_wp2
          go_ret2
          exact ⟨by rw [H.out.1, H.out.2]; rfl, B1⟩
        · rw [if_neg hz] at hstep
          have hzb : (x == 0) = false := by simp [hz]
          have hxp : 0 < x := by omega
          have hps := pop_le (k + 1) (by omega)
          have hq := quo_bd ((pop (k + 1) : Int) + x - 1) x (by omega) hxp
          have hsz := size_i ((k : Int) + 1) wr (by omega) (by omega)
          rw [show ((k : Int) + 1).toNat = k + 1 by omega] at hsz
          obtain ⟨p, hp⟩ : ∃ p : Nat, p = pop (k + 1) := ⟨_, rfl⟩
          rw [← hp] at hsz hstep hps hq
          obtain ⟨r, hr⟩ : ∃ r, r = Int.tdiv ((p : Int) + x - 1) x := ⟨_, rfl⟩
          rw [← hr] at hstep hq
          have wa : IntKind.i64.wrap ((p : Int) + x) = (p : Int) + x := by rw [IntKind.wrap_i64]; omega
          have wb : IntKind.i64.wrap ((p : Int) + x - 1) = (p : Int) + x - 1 := by rw [IntKind.wrap_i64]; omega
          have wr' : IntKind.i64.wrap r = r := by rw [IntKind.wrap_i64]; omega
          have hr2 : Int.tdiv ((p : Int) + x - 1) x = r := hr.symm
          have HST := Lib.hid hstep
          have HSZ := Lib.hid hsz
          clear hstep hsz hp hr hz
          go_wp2_with (go_at_call 128; refine HSZ.out.mono ?_; rintro e w2 ⟨rfl, rfl⟩)
          go_roundw
          case rel => exact ⟨k + 1, max m r, hlt, by go_num, rfl, HST.out, trivial⟩
          case measure => simp [intOf]; omega
      · have hlt2 : ¬ (k : Int) + 1 < (l.length : Int) := by omega
        have hO : cvO N l = some m := by rw [HO.out, show l.length - 1 = k by omega]; exact hcb
        have hN : cvN N l = m := by unfold cvN; rw [hO]; rfl
        have hB : cvB N l = true := by unfold cvB; rw [hO]; rfl
        have H := Lib.hid (And.intro hN hB)
        clear hO hN hB hcb
        go_wp2
        go_ret2
        exact ⟨by rw [H.out.1, H.out.2]; rfl, B1⟩
set_option maxHeartbeats 2000000 in
set_option maxRecDepth 100000 in
theorem cvS_any (w : World) (n : Int) (v : Value) (l : List Int) (hv : Ints w v l) (hl : l.length ≤ 1048576) :
    Calls Tryd.prog 89 #[.agg #[.int .i64 n, v]] w fun e w' => e = .returned (.tuple #[.int .i64 (cvN n l), .bool (cvB n l)]) ∧ Below w.heap.size w w' := by
  have hv0 := hv
  obtain ⟨a, c, rfl⟩ := hv.shape
  have K0 := Blk.new w 31 #[.int .i64 n, .slice a l.length c]
  cases hf : rankB n l with
  | false =>
    have hO : cvO n l = none := by unfold cvO; rw [hf]; rfl
    have hN : cvN n l = 0 := by unfold cvN; rw [hO]; rfl
    have hB : cvB n l = false := by unfold cvB; rw [hO]; rfl
    have H := Lib.hid (And.intro hN hB)
    have HF := Lib.hid hf
    clear hO hN hB hf
    go_enter Tryd.func89, Tryd.ntmps89
    go_wp2_with fail
    refine (rankS_any n l _ _ (hv0.alloc _) hl).mono ?_
    rintro e w1 ⟨rfl, hb1⟩
    rw [HF.out]
    go_wp2
    go_ret2
    exact ⟨by rw [H.out.1, H.out.2]; rfl, (bl1 _ _).after hb1 (by simp)⟩
  | true =>
    obtain ⟨N, rfl, h5, hl2, hl32, hlb⟩ := fun_nat (rank_fun hf)
    have p0 := Nat.two_pow_pos N
    have hO : cvO N l = cbTo l (l.length - 1) := by unfold cvO; rw [hf]; rfl
    have hge := poly_ge (rank_poly hf)
    have hbd := cbTo_bd l hl32 (fun s hs => ⟨hge s (by omega), by rw [getD_at l s hs]; exact (hlb s hs).2⟩)
    have hlen : 0 < l.length := by omega
    have hxb : ∀ s, (h : s < l.length) → 0 ≤ l[s] ∧ l[s] ≤ 1000 := fun s h => ⟨by rw [← getD_at l s h]; exact hge s (by omega), (hlb s h).2⟩
    have HO := Lib.hid hO
    have HF := Lib.hid hf
    have HBD := Lib.hid hbd
    have HXB := Lib.hid hxb
    clear hO hf hge hbd hlb hl2 p0 hxb
    go_enter Tryd.func89, Tryd.ntmps89
    go_wp2_with fail
    refine (rankS_any N l _ _ (hv0.alloc _) hl).mono ?_
    rintro e w1 ⟨rfl, hb1⟩
    rw [HF.out]
    have B1 : Below w.heap.size w w1 := (bl1 _ _).after hb1 (by simp)
    have K1 := K0.keep hb1
    have hv1 := hv0.below B1 (Nat.le_refl _)
    obtain ⟨av, b, off, cv, hve, _, hix, hc, hb⟩ := hv1.view Tryd.prog 22 3 Tryd.underlying22 intElem
    injection hve with e1 _ e3
    subst e1 e3
    have HC := Lib.hid hc
    have HIX := Lib.hid hix
    have G := K1.cell
    clear hb1 K0 hc hix
    go_wp2_with fail
    go_loopw [4, 5] (fun mv sv wr => ∃ (k : Nat) (m : Int), k < l.length ∧ sv = .int .i64 ((k : Int) + 1) ∧ mv = .int .i64 m ∧ cbTo l k = some m ∧ wr = w1) (fun _ sv _ => l.length + 1 - (intOf sv).toNat)
    case atStart => exact ⟨0, 0, hlen, rfl, rfl, rfl, rfl⟩
    case round =>
      obtain ⟨k, m, hk, rfl, rfl, hcb, rfl⟩ := hrel
      have hmb := HBD.out k m hk hcb
      have hm0 := hmb.1
      have hm1 := hmb.2
      by_cases hlt : k + 1 < l.length
      · have hlt2 : (k : Int) + 1 < (l.length : Int) := by omega
        have hcj := HC.out (k + 1) hlt
        have hij := fun W => HIX.out W (k + 1) hlt
        rw [show (((k + 1 : Nat) : Int)) = (k : Int) + 1 by simp] at hij
        have hxb := HXB.out (k + 1) hlt
        have hg := getD_at l (k + 1) hlt
        have hstep : cbTo l (k + 1) = if l.getD (k + 1) 0 = 0 then none else some (max m (Int.tdiv ((pop (k + 1) : Int) + l.getD (k + 1) 0 - 1) (l.getD (k + 1) 0))) := by rw [cbTo, hcb]
        rw [hg] at hstep
        obtain ⟨x, hx⟩ : ∃ x, x = l[k + 1] := ⟨_, rfl⟩
        rw [← hx] at hcj hxb hstep
        have hx0 := hxb.1
        have hx1 := hxb.2
        clear hx hg hxb hcb hmb
        by_cases hz : x = 0
        · rw [if_pos hz] at hstep
          have hzb : (x == 0) = true := by simp [hz]
          have hO : cvO N l = none := by rw [HO.out]; exact cbTo_none l (k + 1) hstep _ (by omega)
          have hN : cvN N l = 0 := by unfold cvN; rw [hO]; rfl
          have hB : cvB N l = false := by unfold cvB; rw [hO]; rfl
          have H := Lib.hid (And.intro hN hB)
          clear hstep hO hN hB hz
          go_wp2
          go_ret2
          exact ⟨by rw [H.out.1, H.out.2]; rfl, B1⟩
        · rw [if_neg hz] at hstep
          have hzb : (x == 0) = false := by simp [hz]
          have hxp : 0 < x := by omega
          have hps := pop_le (k + 1) (by omega)
          have hq := quo_bd ((pop (k + 1) : Int) + x - 1) x (by omega) hxp
          have hsz := size_s ((k : Int) + 1) wr (by omega) (by omega)
          rw [show ((k : Int) + 1).toNat = k + 1 by omega] at hsz
          obtain ⟨p, hp⟩ : ∃ p : Nat, p = pop (k + 1) := ⟨_, rfl⟩
          rw [← hp] at hsz hstep hps hq
          obtain ⟨r, hr⟩ : ∃ r, r = Int.tdiv ((p : Int) + x - 1) x := ⟨_, rfl⟩
          rw [← hr] at hstep hq
          have wa : IntKind.i64.wrap ((p : Int) + x) = (p : Int) + x := by rw [IntKind.wrap_i64]; omega
          have wb : IntKind.i64.wrap ((p : Int) + x - 1) = (p : Int) + x - 1 := by rw [IntKind.wrap_i64]; omega
          have wr' : IntKind.i64.wrap r = r := by rw [IntKind.wrap_i64]; omega
          have hr2 : Int.tdiv ((p : Int) + x - 1) x = r := hr.symm
          have HST := Lib.hid hstep
          have HSZ := Lib.hid hsz
          clear hstep hsz hp hr hz
          go_wp2_with (go_at_call 117; refine HSZ.out.mono ?_; rintro e w2 ⟨rfl, rfl⟩)
          go_roundw
          case rel => exact ⟨k + 1, max m r, hlt, by go_num, rfl, HST.out, trivial⟩
          case measure => simp [intOf]; omega
      · have hlt2 : ¬ (k : Int) + 1 < (l.length : Int) := by omega
        have hO : cvO N l = some m := by rw [HO.out, show l.length - 1 = k by omega]; exact hcb
        have hN : cvN N l = m := by unfold cvN; rw [hO]; rfl
        have hB : cvB N l = true := by unfold cvB; rw [hO]; rfl
        have H := Lib.hid (And.intro hN hB)
        clear hO hN hB hcb
        go_wp2
        go_ret2
        exact ⟨by rw [H.out.1, H.out.2]; rfl, B1⟩
end Go.Proofs.YtpaoiiiceekkkaaDoor
end
