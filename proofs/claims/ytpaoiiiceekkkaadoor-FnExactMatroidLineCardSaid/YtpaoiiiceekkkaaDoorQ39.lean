/- Bases and circuits: the second program. Flats: the second program. -/
import Derived.Test.YtpaoiiiceekkkaaDoorQ38
import Derived.Deep.RegionHeld3
section
namespace Go.Proofs.YtpaoiiiceekkkaaDoor
open Go.RowKit Go.G5


set_option maxHeartbeats 2000000 in
set_option maxRecDepth 100000 in
theorem basS_c (w : World) (n : Int) (v : Value) (l : List Int) (hv : Ints w v l) (hl : l.length ≤ 1048576) :
    Calls Tryd.prog 86 #[.agg #[.int .i64 n, v]] w fun e w' => ∃ ad i cp, e = .returned (.tuple #[.agg #[.int .i64 (matN n l), .slice ad i cp], .bool (rankB n l)]) ∧ OwnI 3 w.heap.size w' (.slice ad i cp) (basL n l) ∧ Below w.heap.size w w' := by
  obtain ⟨a, c, rfl⟩ := hv.shape
  go_enter Tryd.func86, Tryd.ntmps86
  go_wp2_with fail
  refine calls_named ?_
  intro V hV
  have B : Below w.heap.size w V := by rw [hV]; exact bl2 _ _ _
  have K1 : Blk V w.heap.size 31 #[.int .i64 n, .slice a l.length c] := by rw [hV]; exact (Blk.new _ _ _).alloc _
  have K2 : Blk V (w.heap.size + 1) 32 #[.int .i64 0, .slice none 0 0] := by rw [hV]; have := Blk.new (w.alloc (.cells #[.int .i64 n, .slice a l.length c] 31)) 32 #[.int .i64 0, .slice none 0 0]; simpa using this
  clear hV
  refine (rankS_any n l _ _ (hv.below B (Nat.le_refl _)) hl).mono ?_
  rintro e w1 ⟨rfl, hb1⟩
  have K1' := K1.keep hb1
  have K2' := K2.keep hb1
  have B1 := B.after hb1 B.size
  have G1 := K1'.cell
  have G2 := K2'.cell
  have F2 := K2'.frozen
  have z1 := K1'.lt
  have z2 := K2'.lt
  have hv1 := hv.below B1 (Nat.le_refl _)
  clear K1 K2 B hb1
  cases hf : rankB n l with
  | false =>
    have hN : matN n l = 0 := by unfold matN; rw [hf]; rfl
    have hL : basL n l = [] := by unfold basL; rw [hf]; rfl
    have HN := Lib.hid hN
    have HL := Lib.hid hL
    have HF := Lib.hid hf
    clear hN hL
    go_wp2
    refine post_named ?_
    intro Wf hWf
    have K2f : Blk Wf (w.heap.size + 1) 32 #[.int .i64 0, .slice none 0 0] := by
      rw [hWf]
      have := (K2'.set 0 (.int .i64 0)).set 1 (.slice none 0 0)
      simpa using this
    have Bf : Below w.heap.size w Wf := by rw [hWf]; exact Below.setCell (Below.setCell B1 (by first | omega | (simp; done) | (simp; omega)) _) (by first | omega | (simp; done) | (simp; omega)) _
    have Gf := K2f.cell
    clear hWf G1 G2 F2
    exact bodyPost_ret (v := .tuple #[.agg #[.int .i64 0, .slice none 0 0], .bool false]) (by simp [results, Tryd.results86, go_sem, Gf]) rfl ⟨none, 0, 0, by rw [HN.out, HF.out], by rw [HL.out]; exact OwnI.nil _ _ _, Bf⟩
  | true =>
    obtain ⟨N, rfl, h5, hl2, hl32, hlb⟩ := fun_nat (rank_fun hf)
    have hp0 := Nat.two_pow_pos N
    have hN : matN N l = N := by unfold matN; rw [hf]; rfl
    have hL : basL N l = chosen (basP l) l.length := by unfold basL; rw [hf, if_pos rfl]
    obtain ⟨av, b, off, cv, hve, _, hix, hc, hb⟩ := hv1.view Tryd.prog 22 3 Tryd.underlying22 intElem
    injection hve with e1 _ e3
    subst e1 e3
    have htop : l.length - 1 < l.length := by omega
    have ck2 := hc (l.length - 1) htop
    have ik2 := fun W => hix W (l.length - 1) htop
    rw [show ((l.length - 1 : Nat) : Int) = (l.length : Int) - 1 by omega] at ik2
    have wl : IntKind.i64.wrap ((l.length : Int) - 1) = (l.length : Int) - 1 := by rw [IntKind.wrap_i64]; omega
    obtain ⟨t, ht⟩ : ∃ t, t = topL l := ⟨_, rfl⟩
    rw [show l[l.length - 1] = t by rw [ht]; exact (getD_at l _ htop).symm] at ck2
    have hP : ∀ s, (h : s < l.length) → basP l s = (decide (l[s] = t) && decide ((pop s : Int) = t)) := fun s h => by rw [basP_is, getD_at l s h, ht]
    obtain ⟨P, hPP⟩ : ∃ P, P = basP l := ⟨_, rfl⟩
    rw [← hPP] at hL
    simp only [← hPP] at hP
    have HP := Lib.hid hP
    have HN := Lib.hid hN
    have HL := Lib.hid hL
    have HF := Lib.hid hf
    have HC := Lib.hid hc
    have HIX := Lib.hid hix
    have o0 := OwnI.lit0 (E := 3) (B := w1.heap.size) w1 (Nat.le_refl _)
    clear hN hL hf hlb hl2 hp0 hPP hP ht hc hix
    go_wp2_with fail
    go_loopw [5, 6] (fun out i wr => ∃ (k : Nat) (ad : Option Addr) (nn cp : Nat), k ≤ l.length ∧ out = .slice ad nn cp ∧ i = .int .i64 k ∧ OwnI 3 w1.heap.size wr (.slice ad nn cp) (chosen P k) ∧ Below w1.heap.size w1 wr)
      (fun _ i _ => l.length - (intOf i).toNat)
    case atStart => exact ⟨0, _, _, _, Nat.zero_le _, rfl, rfl, o0, bl1 _ _⟩
    case round =>
      obtain ⟨k, ad, nn, cp, hk, rfl, rfl, ho, B⟩ := hrel
      obtain ⟨wo, rfl⟩ : ∃ z : World, z = wr := ⟨_, rfl⟩
      have HO := Lib.hid ho
      clear ho o0 G1 G2 F2
      have G1 := (K1'.keep B).cell
      have zw := B.size
      by_cases hlt : k < l.length
      · have hlt2 : (k : Int) < (l.length : Int) := by omega
        have hcs := chosen_succ P k
        have hlk : (chosen P k).length ≤ 64 := Nat.le_trans (chosen_len P k) (by omega)
        have HCS := Lib.hid hcs
        have ckk := cells_below HC.out hb B (Nat.le_refl _) k hlt
        have ikk := fun W => HIX.out W k hlt
        have hpk := HP.out k hlt
        have hsz := l2Size_any k wo (by omega)
        obtain ⟨x, hx⟩ : ∃ x, x = l[k] := ⟨_, rfl⟩
        rw [← hx] at ckk hpk
        obtain ⟨p, hp⟩ : ∃ p : Nat, p = pop k := ⟨_, rfl⟩
        rw [← hp] at hsz hpk
        have HSZ := Lib.hid hsz
        clear hcs hx hp hsz
        have bx : (x == t) = decide (x = t) := by by_cases h : x = t <;> simp [h]
        have bp : ((p : Int) == t) = decide ((p : Int) = t) := by by_cases h : (p : Int) = t <;> simp [h]
        cases h1 : decide (x = t) with
        | false =>
          rw [h1] at bx hpk
          have HPK := Lib.hid hpk
          clear hpk h1
          go_wp2
          go_roundw
          case rel => exact ⟨k + 1, ad, nn, cp, by omega, rfl, by go_num, by rw [HCS.out, HPK.out]; exact HO.out, B⟩
          case measure => simp [intOf]; omega
        | true =>
          rw [h1] at bx hpk
          clear h1
          cases h2 : decide ((p : Int) = t) with
          | false =>
            rw [h2] at bp hpk
            have HPK := Lib.hid hpk
            clear hpk h2
            go_wp2_with (go_at_call 117; refine HSZ.out.mono ?_; rintro e w' ⟨rfl, rfl⟩)
            go_roundw
            case rel => exact ⟨k + 1, ad, nn, cp, by omega, rfl, by go_num, by rw [HCS.out, HPK.out]; exact HO.out, B⟩
            case measure => simp [intOf]; omega
          | true =>
            rw [h2] at bp hpk
            have HPK := Lib.hid hpk
            clear hpk h2
            go_wp2_with (first
              | (go_at_call 117; refine HSZ.out.mono ?_; rintro e w' ⟨rfl, rfl⟩)
              | (at_builtin; refine wpList_appendI rfl _ _ _ rfl 3 Tryd.underlying22 intElem w1.heap.size _ _ (k : Int) wo.heap.size rfl rfl (cell_new wo #[.int .i64 k] 3 0 _ rfl) (HO.out.alloc _) ⟨by omega, by omega⟩ (by omega) (by first | omega | (simp; done) | (simp; omega)) ?_; intro v' w6 hown hgr; obtain ⟨av, nv, cv, rfl⟩ := hown.shape3))
            have B6 : Below w1.heap.size w1 w6 := (B.alloc B.size (.cells #[.int .i64 k] 3)).grown hgr (by simp; omega) (fun q hq => (HO.out.lt q hq).1)
            go_roundw
            case rel => exact ⟨k + 1, av, nv, cv, by omega, rfl, by go_num, by rw [HCS.out, HPK.out]; exact hown, B6⟩
            case measure => simp [intOf]; omega
      · have hlt2 : ¬ (k : Int) < (l.length : Int) := by omega
        have hkN : k = l.length := by omega
        subst hkN
        have K2'' := K2'.keep B
        have y2 := K2''.lt
        have G2 := K2''.cell
        have F2 := K2''.frozen
        have yy := B1.size
        go_wp2
        refine post_named ?_
        intro Wf hWf
        have K2f : Blk Wf (w.heap.size + 1) 32 #[.int .i64 N, .slice ad nn cp] := by
          rw [hWf]
          have := (K2''.set 0 (.int .i64 N)).set 1 (.slice ad nn cp)
          simpa using this
        have Bf : Below w.heap.size w Wf := by rw [hWf]; exact Below.setCell (Below.setCell (B1.after B B1.size) (by first | omega | (simp; done) | (simp; omega)) _) (by first | omega | (simp; done) | (simp; omega)) _
        have of : OwnI 3 w.heap.size Wf (.slice ad nn cp) (chosen P l.length) := by rw [hWf]; exact ((HO.out.setBelow (by first | omega | (simp; done) | (simp; omega)) _).setBelow (by first | omega | (simp; done) | (simp; omega)) _).mono (by first | omega | (simp; done) | (simp; omega))
        have Gf := K2f.cell
        clear hWf G1 G2 F2
        exact bodyPost_ret (v := .tuple #[.agg #[.int .i64 N, .slice ad nn cp], .bool true]) (by simp [results, Tryd.results86, go_sem, Gf]) rfl ⟨ad, nn, cp, by rw [HN.out, HF.out], by rw [HL.out]; exact of, Bf⟩

set_option maxHeartbeats 2000000 in
set_option maxRecDepth 100000 in
theorem cirS_c (w : World) (n : Int) (v : Value) (l : List Int) (hv : Ints w v l) (hl : l.length ≤ 1048576) :
    Calls Tryd.prog 87 #[.agg #[.int .i64 n, v]] w fun e w' => ∃ ad i cp, e = .returned (.tuple #[.agg #[.int .i64 (matN n l), .slice ad i cp], .bool (rankB n l)]) ∧ OwnI 3 w.heap.size w' (.slice ad i cp) (cirL n l) ∧ Below w.heap.size w w' := by
  obtain ⟨a, c, rfl⟩ := hv.shape
  go_enter Tryd.func87, Tryd.ntmps87
  go_wp2_with fail
  refine calls_named ?_
  intro V hV
  have B : Below w.heap.size w V := by rw [hV]; exact bl2 _ _ _
  have K1 : Blk V w.heap.size 31 #[.int .i64 n, .slice a l.length c] := by rw [hV]; exact (Blk.new _ _ _).alloc _
  have K2 : Blk V (w.heap.size + 1) 32 #[.int .i64 0, .slice none 0 0] := by rw [hV]; have := Blk.new (w.alloc (.cells #[.int .i64 n, .slice a l.length c] 31)) 32 #[.int .i64 0, .slice none 0 0]; simpa using this
  clear hV
  refine (rankS_any n l _ _ (hv.below B (Nat.le_refl _)) hl).mono ?_
  rintro e w1 ⟨rfl, hb1⟩
  have K1' := K1.keep hb1
  have K2' := K2.keep hb1
  have B1 := B.after hb1 B.size
  have G1 := K1'.cell
  have G2 := K2'.cell
  have F2 := K2'.frozen
  have z1 := K1'.lt
  have z2 := K2'.lt
  have hv1 := hv.below B1 (Nat.le_refl _)
  clear K1 K2 B hb1
  cases hf : rankB n l with
  | false =>
    have hN : matN n l = 0 := by unfold matN; rw [hf]; rfl
    have hL : cirL n l = [] := by unfold cirL; rw [hf]; rfl
    have HN := Lib.hid hN
    have HL := Lib.hid hL
    have HF := Lib.hid hf
    clear hN hL
    go_wp2
    refine post_named ?_
    intro Wf hWf
    have K2f : Blk Wf (w.heap.size + 1) 32 #[.int .i64 0, .slice none 0 0] := by
      rw [hWf]
      have := (K2'.set 0 (.int .i64 0)).set 1 (.slice none 0 0)
      simpa using this
    have Bf : Below w.heap.size w Wf := by rw [hWf]; exact Below.setCell (Below.setCell B1 (by first | omega | (simp; done) | (simp; omega)) _) (by first | omega | (simp; done) | (simp; omega)) _
    have Gf := K2f.cell
    clear hWf G1 G2 F2
    exact bodyPost_ret (v := .tuple #[.agg #[.int .i64 0, .slice none 0 0], .bool false]) (by simp [results, Tryd.results87, go_sem, Gf]) rfl ⟨none, 0, 0, by rw [HN.out, HF.out], by rw [HL.out]; exact OwnI.nil _ _ _, Bf⟩
  | true =>
    obtain ⟨N, rfl, h5, hl2, hl32, hlb⟩ := fun_nat (rank_fun hf)
    have hN : matN N l = N := by unfold matN; rw [hf]; rfl
    have hL : cirL N l = minL (chosen (cirP l) l.length) := by unfold cirL; rw [hf, if_pos rfl]
    obtain ⟨av, b, off, cv, hve, _, hix, hc, hb⟩ := hv1.view Tryd.prog 22 3 Tryd.underlying22 intElem
    injection hve with e1 _ e3
    subst e1 e3
    have hP : ∀ s, (h : s < l.length) → cirP l s = decide (l[s] < (pop s : Int)) := fun s h => by rw [cirP_is hf s (by omega), getD_at l s h]
    obtain ⟨P, hPP⟩ : ∃ P, P = cirP l := ⟨_, rfl⟩
    rw [← hPP] at hL
    simp only [← hPP] at hP
    have hmin := minTo_all (chosen P l.length) (chosen_asc P l.length) (fun x hx => (chosen_mem P l.length x hx).1)
    have hmb : ∀ x ∈ chosen P l.length, 0 ≤ x ∧ x < 64 := fun x hx => by have := chosen_mem P l.length x hx; omega
    have hml0 : (chosen P l.length).length ≤ 64 := Nat.le_trans (chosen_len P l.length) (by omega)
    have hmn : ∀ (W : World) (ad : Option Addr) (nn cp : Nat), Ints W (.slice ad nn cp) (chosen P l.length) → Calls Tryd.prog 147 #[.slice ad nn cp] W fun e w' =>
        ∃ ad' i' cp', e = .returned (.slice ad' i' cp') ∧ OwnI 3 W.heap.size w' (.slice ad' i' cp') (minL (chosen P l.length)) ∧ Below W.heap.size W w' := fun W ad nn cp hW => by
      have := l15Minimal_any (chosen P l.length) _ W hW hmb hml0
      rw [hmin] at this
      exact this
    have HML := Lib.hid hmn
    have HP := Lib.hid hP
    have HN := Lib.hid hN
    have HL := Lib.hid hL
    have HF := Lib.hid hf
    have HC := Lib.hid hc
    have HIX := Lib.hid hix
    have o0 := OwnI.lit0 (E := 3) (B := w1.heap.size) w1 (Nat.le_refl _)
    clear hN hL hf hlb hl2 hPP hP hc hix hmin hmb hml0 hmn
    go_wp2_with fail
    go_loopw [4, 5] (fun out i wr => ∃ (k : Nat) (ad : Option Addr) (nn cp : Nat), k ≤ l.length ∧ out = .slice ad nn cp ∧ i = .int .i64 k ∧ OwnI 3 w1.heap.size wr (.slice ad nn cp) (chosen P k) ∧ Below w1.heap.size w1 wr)
      (fun _ i _ => l.length - (intOf i).toNat)
    case atStart => exact ⟨0, _, _, _, Nat.zero_le _, rfl, rfl, o0, bl1 _ _⟩
    case round =>
      obtain ⟨k, ad, nn, cp, hk, rfl, rfl, ho, B⟩ := hrel
      obtain ⟨wo, rfl⟩ : ∃ z : World, z = wr := ⟨_, rfl⟩
      have HO := Lib.hid ho
      clear ho o0 G1 G2 F2
      have K := K1'.keep B
      have G1 := K.cell
      have zw := B.size
      by_cases hlt : k < l.length
      · have hlt2 : (k : Int) < (l.length : Int) := by omega
        have hcs := chosen_succ P k
        have hlk : (chosen P k).length ≤ 64 := Nat.le_trans (chosen_len P k) (by omega)
        have HCS := Lib.hid hcs
        have ckk := cells_below HC.out hb B (Nat.le_refl _) k hlt
        have ikk := fun W => HIX.out W k hlt
        have hpk := HP.out k hlt
        have hsz := fun W => l2Size_any k W (by omega)
        obtain ⟨x, hx⟩ : ∃ x, x = l[k] := ⟨_, rfl⟩
        rw [← hx] at ckk hpk
        obtain ⟨p, hp⟩ : ∃ p : Nat, p = pop k := ⟨_, rfl⟩
        rw [← hp] at hpk
        simp only [← hp] at hsz
        have HSZ := Lib.hid hsz
        have e1 : ∀ y : Ext wo, y.w.cell? ⟨w.heap.size, 1, none⟩ = some (.slice a l.length c) := fun y => y.cell (K.cell 1)
        have e2 : ∀ y : Ext wo, y.w.cell? ⟨b, off + k, none⟩ = some (.int .i64 x) := fun y => y.cell ckk
        clear hcs hx hp hsz
        by_cases hlp : x < (p : Int)
        · rw [decide_eq_true hlp] at hpk
          have HPK := Lib.hid hpk
          clear hpk
          go_wp2_with fail
          refine wp_region_ext _ (by kernel_rfl) (by kernel_rfl) ?_
          repeat (first | go_big_quiet_skip | (go_big_quiet_want; go_big_quiet_op; first | go_big_quiet_on | (apply Exists.intro; refine ⟨fun _ => ?_, ?_⟩; (go_at_call 117; exact ext_same (HSZ.out _)); go_big_quiet_on)))
          refine wpQuiet_nil ?_
          rintro w5 ⟨⟨w5, b5⟩, rfl⟩
          try dsimp only
          have HO5 := HO.out.keep b5
          have B5 := B.after b5 B.size
          have z5 := B5.size
          go_wp2_with (at_builtin; refine wpList_appendI rfl _ _ _ rfl 3 Tryd.underlying22 intElem w1.heap.size _ _ (k : Int) w5.heap.size rfl rfl (cell_new w5 #[.int .i64 k] 3 0 _ rfl) (HO5.alloc _) ⟨by omega, by omega⟩ (by omega) (by first | omega | (simp; done) | (simp; omega)) ?_; intro v' w6 hown hgr; obtain ⟨av, nv, cv, rfl⟩ := hown.shape3)
          have B6 : Below w1.heap.size w1 w6 := (B5.alloc B5.size (.cells #[.int .i64 k] 3)).grown hgr (by simp; omega) (fun q hq => (HO5.lt q hq).1)
          go_roundw
          case rel => exact ⟨k + 1, av, nv, cv, by omega, rfl, by go_num, by rw [HCS.out, HPK.out]; exact hown, B6⟩
          case measure => simp [intOf]; omega
        · rw [decide_eq_false hlp] at hpk
          have HPK := Lib.hid hpk
          clear hpk
          go_wp2_with fail
          refine wp_region_ext _ (by kernel_rfl) (by kernel_rfl) ?_
          repeat (first | go_big_quiet_skip | (go_big_quiet_want; go_big_quiet_op; first | go_big_quiet_on | (apply Exists.intro; refine ⟨fun _ => ?_, ?_⟩; (go_at_call 117; exact ext_same (HSZ.out _)); go_big_quiet_on)))
          refine wpQuiet_nil ?_
          rintro w5 ⟨⟨w5, b5⟩, rfl⟩
          try dsimp only
          go_wp2
          go_roundw
          case rel => exact ⟨k + 1, ad, nn, cp, by omega, rfl, by go_num, by rw [HCS.out, HPK.out]; exact HO.out.keep b5, B.after b5 B.size⟩
          case measure => simp [intOf]; omega
      · have hlt2 : ¬ (k : Int) < (l.length : Int) := by omega
        have hkN : k = l.length := by omega
        subst hkN
        have K2'' := K2'.keep B
        have y2 := K2''.lt
        have hoI := HO.out.ints
        have z1r : w.heap.size < wo.heap.size := by omega
        go_wp2_with fail
        have G2 := K2''.cell
        have F2 := K2''.frozen
        go_region_held3 (fun w' => (∀ i, w'.cell? ⟨w.heap.size, i, none⟩ = (#[.int .i64 N, .slice a l.length c] : Array Value)[i]?)) (go_keep)
          (first
            | (go_at_call 147; refine (HML.out _ _ _ _ (hoI.below (B := wo.heap.size) (by repeat (first | exact Below.refl _ _ | (with_reducible refine Below.setCell ?_ (by first | omega | (simp; done) | (simp; omega)) _) | (with_reducible refine Below.alloc ?_ (by first | omega | (simp; done) | (simp; omega)) _) | (with_reducible refine Below.drewN' ?_ _) | (with_reducible refine Below.drew ?_) | (with_reducible assumption) | refine Below.trans ?_ (Below.mono (by assumption) (by first | omega | (simp; done) | (simp; omega))))) (Nat.le_refl _))).mono ?_; rintro e w3 ⟨p3, i3, q3, rfl, o3, hb3⟩; obtain ⟨hc3, hf3⟩ := bcellN hb3 wo.heap.size (by first | omega | (simp; done) | (simp; omega)); have z3 := hb3.size; (try simp at z3)))
        go_wp2
        refine post_named ?_
        intro Wf hWf
        have K2f : Blk Wf (w.heap.size + 1) 32 #[.int .i64 N, .slice p3 i3 q3] := by
          rw [hWf]
          have := (((K2''.drewN 1).keep hb3).set 0 (.int .i64 N)).set 1 (.slice p3 i3 q3)
          simpa using this
        have yy := B1.size
        have Bf : Below w.heap.size w Wf := by rw [hWf]; exact Below.setCell (Below.setCell (((B1.after B B1.size).drewN' 1).after hb3 (by first | omega | (simp; done) | (simp; omega))) (by first | omega | (simp; done) | (simp; omega)) _) (by first | omega | (simp; done) | (simp; omega)) _
        have of : OwnI 3 w.heap.size Wf (.slice p3 i3 q3) (minL (chosen P l.length)) := by rw [hWf]; exact ((o3.setBelow (by first | omega | (simp; done) | (simp; omega)) _).setBelow (by first | omega | (simp; done) | (simp; omega)) _).mono (by first | omega | (simp; done) | (simp; omega))
        have Gf := K2f.cell
        clear hWf G1 G2 F2 hc3 hf3
        exact bodyPost_ret (v := .tuple #[.agg #[.int .i64 N, .slice p3 i3 q3], .bool true]) (by simp [results, Tryd.results87, go_sem, Gf]) rfl ⟨p3, i3, q3, by rw [HN.out, HF.out], by rw [HL.out]; exact of, Bf⟩
end Go.Proofs.YtpaoiiiceekkkaaDoor
end
section
namespace Go.Proofs.YtpaoiiiceekkkaaDoor
open Go.RowKit Go.G5

/-- whether a value is the word true, as a number -/
def bn : Value → Nat
  | .bool true => 1
  | _ => 0
theorem gain_zero (l : List Int) (t k : Nat) (h1 : t < l.length) (h2 : setBit t k < l.length) : (l[setBit t k] == l[t]) = (gainL l t k == 0) := by
  unfold gainL
  rw [getD_at l _ h1, getD_at l _ h2]
  by_cases h : l[setBit t k] = l[t]
  · rw [h]; simp
  · rw [beq_eq_false_iff_ne.2 h, beq_eq_false_iff_ne.2 (show l[setBit t k] - l[t] ≠ 0 by omega)]
set_option maxHeartbeats 4000000 in
set_option maxRecDepth 100000 in
theorem l5Closure_any (w : World) (N : Nat) (v : Value) (l : List Int) (hv : Ints w v l) (h5 : N ≤ 5) (hl2 : l.length = 2 ^ N) (s : Nat) (hs : s < 2 ^ N) :
    Calls Tryd.prog 148 #[.agg #[.int .i64 (N : Int), v], .int .i64 s] w fun e w' => ∃ t : Nat, e = .returned (.int .i64 t) ∧ decide (t = s) = flatB l N s ∧ Below w.heap.size w w' := by
  have hv0 := hv
  obtain ⟨a, b, off, c, rfl, hlen, hix, hc, hb⟩ := hv.view Tryd.prog 22 3 Tryd.underlying22 intElem
  have K0 := Blk.new w 31 #[.int .i64 (N : Int), .slice a l.length c]
  have hp5 : (2 : Nat) ^ N ≤ 32 := Nat.pow_le_pow_right (n := 2) (by decide) h5
  have HC := Lib.hid hc
  have HIX := Lib.hid hix
  have HL2 := Lib.hid hl2
  clear hc hix hlen hl2
  go_enter Tryd.func148, Tryd.ntmps148
  go_wp2_with fail
  go_loopw [1, 5] (fun sv av wr => ∃ (t : Nat) (ag : Bool), sv = .int .i64 t ∧ av = .bool ag ∧ t < 2 ^ N ∧ (t = s ∨ (s < t ∧ flatB l N s = false)) ∧ (ag = false → flatB l N t = true) ∧ Below w.heap.size w wr ∧ Blk wr w.heap.size 31 #[.int .i64 (N : Int), .slice a l.length c]) (fun sv av _ => (2 ^ N - (intOf sv).toNat) * 2 + bn av)
  case atStart => exact ⟨s, true, rfl, rfl, hs, .inl rfl, (fun h => by cases h), bl1 _ _, K0⟩
  case round =>
    obtain ⟨t, ag, rfl, rfl, htN, hts, hag, B, K⟩ := hrel
    obtain ⟨wo, rfl⟩ : ∃ wo : World, wo = wr := ⟨_, rfl⟩
    have HTS := Lib.hid hts
    clear K0 hts
    cases ag with
    | false =>
      have hfl := hag rfl
      have hfin : decide (t = s) = flatB l N s := by
        rcases HTS.out with h | ⟨h1, h2⟩
        · subst h; rw [hfl]; simp
        · rw [h2]; exact decide_eq_false (by omega)
      have HFI := Lib.hid hfin
      clear hfl hfin hag
      go_wp2
      go_ret
      exact ⟨t, rfl, HFI.out, B⟩
    | true =>
      clear hag
      have G := K.cell
      go_wp2_with fail
      go_loopw [1, 5, 6] (fun sv av ev wr => ∃ (t' e : Nat) (ag : Bool), sv = .int .i64 t' ∧ av = .bool ag ∧ ev = .int .i64 e ∧ e ≤ N ∧ t' < 2 ^ N ∧ ((ag = false ∧ t' = t ∧ flatB l e t = true) ∨ (ag = true ∧ t < t' ∧ flatB l N t = false)) ∧ Below w.heap.size w wr ∧ Blk wr w.heap.size 31 #[.int .i64 (N : Int), .slice a l.length c]) (fun _ _ ev _ => N - (intOf ev).toNat)
      case atStart => exact ⟨t, 0, false, rfl, rfl, rfl, Nat.zero_le _, htN, .inl ⟨rfl, rfl, rfl⟩, B, K⟩
      case round =>
        obtain ⟨t', e, ag, rfl, rfl, rfl, he, ht'N, hcase, B2, K2⟩ := hrel
        obtain ⟨wi, rfl⟩ : ∃ wo : World, wo = wr := ⟨_, rfl⟩
        have HCA := Lib.hid hcase
        clear hcase G K
        have G := K2.cell
        by_cases heN : e < N
        · have heN2 : (e : Int) < (N : Int) := by omega
          have hbe := bit_is (t' : Int) e (by omega) (by omega)
          have hne : (ibit (t' : Int) e == 0) = !nbit t' e := by
            have h := nbit_is t' e
            have h2 : ibit (t' : Int) e = 0 ∨ ibit (t' : Int) e = 1 := by unfold ibit; omega
            rcases h2 with h2 | h2
            · rw [h2] at h ⊢; rw [← h]; rfl
            · rw [h2] at h ⊢; rw [← h]; rfl
          obtain ⟨y, hy⟩ : ∃ y, y = ibit (t' : Int) e := ⟨_, rfl⟩
          rw [← hy] at hbe hne
          have hl2 := HL2.out
          obtain ⟨t2, ht2⟩ : ∃ t2, t2 = setBit t' e := ⟨_, rfl⟩
          have hsb : t2 < 2 ^ N := by rw [ht2]; exact setBit_lt t' e N ht'N heN
          have hor : bits .or .i64 (t' : Int) (2 ^ e) = ((t2 : Nat) : Int) := by rw [ht2]; exact setBit_is t' e (by omega) (by omega)
          have c1 := cells_below HC.out hb B2 (Nat.le_refl _) t' (by omega)
          have c2 := cells_below HC.out hb B2 (Nat.le_refl _) t2 (by omega)
          have i1 := fun W => HIX.out W t' (by omega)
          have i2 := fun W => HIX.out W t2 (by omega)
          have hgz : (l[t2]'(by omega) == l[t']'(by omega)) = (gainL l t' e == 0) := by subst ht2; exact gain_zero l t' e (by omega) (by omega)
          have hgt : nbit t' e = false → t' < t2 := fun h => by rw [ht2]; exact setBit_gt t' e h
          obtain ⟨x, hx⟩ : ∃ x, x = l[t'] := ⟨_, rfl⟩
          obtain ⟨z, hz⟩ : ∃ z, z = l[t2] := ⟨_, rfl⟩
          rw [← hx] at c1 hgz
          rw [← hz] at c2 hgz
          have hp64 := two_pow e 6 (by omega)
          have hp1 : (2 : Int) ^ e ≤ 64 := by simpa using hp64.1
          have hp2 := hp64.2
          have wi2 : IntKind.i64.wrap ((2 : Int) ^ e) = 2 ^ e := by rw [IntKind.wrap_i64]; omega
          have he0 : (0 : Int) ≤ (e : Int) := Int.natCast_nonneg _
          have hstep : flatB l (e + 1) t = (flatB l e t && (nbit t e || !(gainL l t e == 0))) := rfl
          have HST := Lib.hid hstep
          have HGT := Lib.hid hgt
          clear hy ht2 hx hz hp64 hstep hgt hl2
          cases h1 : nbit t' e with
          | true =>
            have hy1 : (y == 0) = false := by rw [hne, h1]; rfl
            have H1 := Lib.hid h1
            clear h1 hne hgz
            go_wp2_with fail
            go_quiet (fail)
            go_wp2
            go_roundw
            case rel =>
              refine ⟨t', e + 1, ag, rfl, rfl, by go_num, by omega, ht'N, ?_, B2.drewN' _, K2.drewN _⟩
              rcases HCA.out with ⟨q1, q2, q3⟩ | q
              · exact .inl ⟨q1, q2, by rw [HST.out, q3, ← q2, H1.out]; rfl⟩
              · exact .inr q
            case measure => simp [intOf]; omega
          | false =>
            have hy1 : (y == 0) = true := by rw [hne, h1]; rfl
            have H1 := Lib.hid h1
            clear h1 hne
            cases h2 : (z == x) with
            | false =>
              rw [h2] at hgz
              have HGZ := Lib.hid hgz
              clear hgz
              go_wp2_with fail
              go_quiet (fail)
              go_wp2
              go_roundw
              case rel =>
                refine ⟨t', e + 1, ag, rfl, rfl, by go_num, by omega, ht'N, ?_, B2.drewN' _, K2.drewN _⟩
                rcases HCA.out with ⟨q1, q2, q3⟩ | q
                · exact .inl ⟨q1, q2, by rw [HST.out, q3, ← q2, ← HGZ.out]; simp⟩
                · exact .inr q
              case measure => simp [intOf]; omega
            | true =>
              rw [h2] at hgz
              have HGZ := Lib.hid hgz
              clear hgz
              go_wp2_with fail
              go_quiet (fail)
              go_wp2
              go_roundw
              case rel =>
                refine ⟨t2, e + 1, true, rfl, rfl, by go_num, by omega, hsb, .inr ⟨rfl, ?_, ?_⟩, B2.drewN' _, K2.drewN _⟩
                · have := HGT.out H1.out
                  rcases HCA.out with ⟨_, q2, _⟩ | ⟨_, q2, _⟩ <;> omega
                · rcases HCA.out with ⟨_, q2, _⟩ | ⟨_, _, q3⟩
                  · exact flat_not heN (by rw [← q2]; exact H1.out) (by rw [← q2]; simpa using HGZ.out.symm)
                  · exact q3
              case measure => simp [intOf]; omega
        · have heN2 : ¬ (e : Int) < (N : Int) := by omega
          have heN3 : e = N := by omega
          subst heN3
          go_wp2
          go_roundw
          case rel =>
            refine ⟨t', ag, rfl, rfl, ht'N, ?_, ?_, B2, K2⟩
            · rcases HCA.out with ⟨_, q2, _⟩ | ⟨_, q2, q3⟩
              · rw [q2]; exact HTS.out
              · right
                rcases HTS.out with h | ⟨h, h'⟩
                · subst h; exact ⟨q2, q3⟩
                · exact ⟨by omega, h'⟩
            · intro h
              rcases HCA.out with ⟨_, q2, q3⟩ | ⟨q1, _, _⟩
              · rw [q2]; exact q3
              · rw [q1] at h; cases h
          case measure =>
            rcases HCA.out with ⟨q1, q2, _⟩ | ⟨q1, q2, _⟩
            · subst q1 q2; simp [intOf, bn]
            · subst q1; simp [intOf, bn]; omega
set_option maxHeartbeats 2000000 in
set_option maxRecDepth 100000 in
theorem flaS_c (w : World) (n : Int) (v : Value) (l : List Int) (hv : Ints w v l) (hl : l.length ≤ 1048576) :
    Calls Tryd.prog 88 #[.agg #[.int .i64 n, v]] w fun e w' => ∃ ad i cp, e = .returned (.tuple #[.slice ad i cp, .bool (polyB n l)]) ∧ OwnI 3 w.heap.size w' (.slice ad i cp) (flaL n l) ∧ Below w.heap.size w w' := by
  have hv0 := hv
  obtain ⟨a, c, rfl⟩ := hv.shape
  have K0 := (Blk.new w 31 #[.int .i64 n, .slice a l.length c]).alloc (.cells #[] 3)
  have B0 : Below w.heap.size w ((w.alloc (.cells #[.int .i64 n, .slice a l.length c] 31)).alloc (.cells #[] 3)) := bl2 _ _ _
  have o0 : OwnI 3 (w.heap.size + 1) ((w.alloc (.cells #[.int .i64 n, .slice a l.length c] 31)).alloc (.cells #[] 3)) (.slice (some ⟨w.heap.size + 1, 0, none⟩) 0 0) [] := by
    have := OwnI.lit0 (E := 3) (B := w.heap.size + 1) (w.alloc (.cells #[.int .i64 n, .slice a l.length c] 31)) (by simp)
    simpa using this
  cases hf : polyB n l with
  | false =>
    have hL : flaL n l = [] := by unfold flaL; rw [hf]; rfl
    have HL := Lib.hid hL
    have HF := Lib.hid hf
    clear hL hf
    go_enter Tryd.func88, Tryd.ntmps88
    go_wp2_with fail
    go_loopw [4, 5] (fun ov iv wr => ∃ (p : Option Addr) (i q : Nat), ov = .slice p i q ∧ iv = .int .i64 0 ∧ OwnI 3 (w.heap.size + 1) wr (.slice p i q) [] ∧ Below w.heap.size w wr ∧ Blk wr w.heap.size 31 #[.int .i64 n, .slice a l.length c]) (fun _ _ _ => 0)
    case atStart => exact ⟨_, _, _, rfl, rfl, o0, B0, K0⟩
    case round =>
      obtain ⟨p, i, q, rfl, rfl, ho, B, K⟩ := hrel
      have G := K.cell
      go_wp2_with fail
      refine (polyS_any n l _ _ (hv0.below B (Nat.le_refl _)) hl).mono ?_
      rintro e w1 ⟨rfl, hb1⟩
      rw [HF.out]
      have B1 := B.after hb1 B.size
      have K1 := K.keep hb1
      have ho1 := ho.keep hb1
      clear G
      have G := K1.cell
      go_wp2_with fail
      refine (polyS_any n l _ _ (hv0.below B1 (Nat.le_refl _)) hl).mono ?_
      rintro e w2 ⟨rfl, hb2⟩
      rw [HF.out]
      go_wp2
      go_ret2
      exact ⟨p, i, q, rfl, by rw [HL.out]; exact (ho1.keep hb2).mono (by omega), B1.after hb2 B1.size⟩
  | true =>
    obtain ⟨N, rfl, h5, hl2, hl32, hlb⟩ := fun_nat (poly_fun hf)
    have hL : flaL N l = chosen (flatB l N) l.length := by unfold flaL; rw [hf]; rfl
    have hcl := fun (W : World) (h : Ints W (.slice a l.length c) l) (s : Nat) (hs : s < l.length) => l5Closure_any W N _ l h h5 hl2 s (by omega)
    obtain ⟨P, hP⟩ : ∃ P, P = flatB l N := ⟨_, rfl⟩
    rw [← hP] at hL
    simp only [← hP] at hcl
    have HL := Lib.hid hL
    have HF := Lib.hid hf
    have HCL := Lib.hid hcl
    clear hL hf hcl hP hlb hl2
    go_enter Tryd.func88, Tryd.ntmps88
    go_wp2_with fail
    go_loopw [4, 5] (fun ov iv wr => ∃ (k : Nat) (p : Option Addr) (i q : Nat), k ≤ l.length ∧ iv = .int .i64 k ∧ ov = .slice p i q ∧ OwnI 3 (w.heap.size + 1) wr (.slice p i q) (chosen P k) ∧ Below w.heap.size w wr ∧ Blk wr w.heap.size 31 #[.int .i64 N, .slice a l.length c]) (fun _ iv _ => l.length - (intOf iv).toNat)
    case atStart => exact ⟨0, _, _, _, Nat.zero_le _, rfl, rfl, o0, B0, K0⟩
    case round =>
      obtain ⟨k, p, i, q, hk, rfl, rfl, ho, B, K⟩ := hrel
      obtain ⟨wo, rfl⟩ : ∃ wo : World, wo = wr := ⟨_, rfl⟩
      clear o0 B0 K0
      have G := K.cell
      go_wp2_with fail
      refine (polyS_any N l _ _ (hv0.below B (Nat.le_refl _)) hl).mono ?_
      rintro e w1 ⟨rfl, hb1⟩
      rw [HF.out]
      have B1 := B.after hb1 B.size
      have K1 := K.keep hb1
      have ho1 := ho.keep hb1
      clear G B K ho hb1
      have G := K1.cell
      by_cases hkl : k < l.length
      · have hkl2 : (k : Int) < (l.length : Int) := by omega
        have hcs := chosen_succ P k
        have hlk : (chosen P k).length ≤ 64 := Nat.le_trans (chosen_len P k) (by omega)
        have HCS := Lib.hid hcs
        clear hcs
        have HFK := Lib.hid (HCL.out w1 (hv0.below B1 (Nat.le_refl _)) k hkl)
        go_wp2_with fail
        refine HFK.out.mono ?_
        rintro e w3 ⟨t, rfl, htk, b3⟩
        have ho3 := ho1.keep b3
        have B3 := B1.after b3 B1.size
        have K3 := K1.keep b3
        have rr := ho3.lt
        have heq : ((t : Int) == (k : Int)) = P k := by
          rw [← htk]
          by_cases h : t = k
          · subst h; simp
          · rw [decide_eq_false h, beq_eq_false_iff_ne]; omega
        cases hPk : P k with
        | false =>
          rw [hPk] at heq
          have HPK := Lib.hid hPk
          clear hPk htk
          go_wp2
          go_roundw
          case rel => exact ⟨k + 1, p, i, q, by omega, by go_num, rfl, by rw [HCS.out, HPK.out]; exact ho3, B3, K3⟩
          case measure => simp [intOf]; omega
        | true =>
          rw [hPk] at heq
          have HPK := Lib.hid hPk
          clear hPk htk
          go_wp2_with (at_builtin; refine wpList_appendI rfl _ _ _ rfl 3 Tryd.underlying22 intElem (w.heap.size + 1) (.slice p i q) (chosen P k) (k : Int) _ rfl rfl (cell_new _ _ _ _ _ rfl) (ho3.alloc _) ⟨by omega, by omega⟩ (by omega) (by have := K3.lt; simp; omega) ?_; intro v7 w7 o7 g7; obtain ⟨p7, i7, q7, rfl⟩ := o7.shape3)
          have B7 := (B3.alloc B3.size (.cells #[.int .i64 (k : Int)] 3)).grown g7 (by have := B3.size; simp; omega) (fun z hz => by have := (rr _ hz).1; omega)
          have K7 := (K3.alloc (.cells #[.int .i64 (k : Int)] 3)).grow g7 (fun e => by have := (rr _ e).1; omega)
          go_roundw
          case rel => exact ⟨k + 1, p7, i7, q7, by omega, by go_num, rfl, by rw [HCS.out, HPK.out]; exact o7, B7, K7⟩
          case measure => simp [intOf]; omega
      · have hkl2 : ¬ (k : Int) < (l.length : Int) := by omega
        have hkl3 : k = l.length := by omega
        subst hkl3
        go_wp2_with fail
        refine (polyS_any N l _ _ (hv0.below B1 (Nat.le_refl _)) hl).mono ?_
        rintro e w2 ⟨rfl, hb2⟩
        rw [HF.out]
        go_wp2
        go_ret2
        exact ⟨p, i, q, rfl, by rw [HL.out]; exact (ho1.keep hb2).mono (by omega), B1.after hb2 B1.size⟩
end Go.Proofs.YtpaoiiiceekkkaaDoor
end
