/- Representatives and violators: the second program. -/
import Derived.Test.YtmfenalnmpndmaaHallP
import Derived.Test.YtmfenalnmpndmaaApp
import Derived.Deep.RegionHeld3
import Derived.Deep.CutRange
namespace Go.Proofs.Ytmfenalnmpndmaa
open Go.RowKit Go.G5

set_option maxHeartbeats 1000000 in
theorem l28Lists_any (g : Int) (l : List Int) (v : Value) (w : World) (hv : Ints w v l) :
    Calls Try.prog 98 #[.int .i64 g, v] w fun e w' => e = .returned (.bool (fewB g l)) ∧ Below w.heap.size w w' := by
  obtain ⟨a, b, off, c, rfl, hlen, hix, hc, hb⟩ := hv.view Try.prog 24 3 Try.underlying24 intElem
  cases hin : inB g 0 6 with
  | false =>
    have hx : fewB g l = false := by unfold fewB areSetsB; rw [hin]; simp
    have HX := Lib.hid hx
    clear hx hc
    go_enter Try.func98, Try.ntmps98
    go_wp2_with (go_at_call 60; refine (l1In_any _ _ _ _).mono ?_; rintro e w' ⟨rfl, rfl⟩)
    go_ret
    exact ⟨by rw [HX.out]; rfl, Below.refl _ _⟩
  | true =>
    have hg := inB_true.1 hin
    obtain ⟨G, rfl⟩ := Int.eq_ofNat_of_zero_le hg.1
    have hG : G ≤ 6 := by omega
    by_cases hl6 : l.length ≤ 6
    · have hx : fewB G l = l.all (isSet G) := by unfold fewB areSetsB; rw [hin, decide_eq_true hl6]; simp
      have hli : ¬ (6 : Int) < l.length := by omega
      have HX := Lib.hid hx
      clear hx hg
      go_enter Try.func98, Try.ntmps98
      go_wp2_with (go_at_call 60; refine (l1In_any _ _ _ _).mono ?_; rintro e w' ⟨rfl, rfl⟩)
      go_loopw [5] (fun i wr => ∃ k m : Nat, k ≤ l.length ∧ i = .int .i64 k ∧ wr = w.drewN m ∧ (l.take k).all (isSet G) = true) (fun i _ => l.length - (intOf i).toNat)
      case atStart => exact ⟨0, 0, by omega, rfl, rfl, by simp⟩
      case round =>
        obtain ⟨k, m, hk, rfl, rfl, hset⟩ := hrel
        have HS := Lib.hid hset
        clear hset
        by_cases hlt : k < l.length
        · have hck := hc k hlt
          cases hs : isSet G l[k] with
          | false =>
            have hsi : inB l[k] 0 (2 ^ G - 1) = false := by rw [isSet_inB]; exact hs
            have HI := Lib.hid hsi
            clear hsi
            go_wp2_with fail
            go_quiet ((first | (go_at_call 83; first | exact q_same2 (l2Full_any G _ (by omega)) | exact q_same (l2Full_any G _ (by omega))) | (go_at_call 60; first | exact q_bool2 (l1In_any _ _ _ _) HI.out | exact q_bool (l1In_any _ _ _ _) HI.out)))
            go_wp2
            go_ret
            refine ⟨ret_bool ?_, ((Below.refl _ _).drewN' _).drewN' _⟩
            rw [HX.out, all_false_at _ _ _ hlt hs]
          | true =>
            have hsi : inB l[k] 0 (2 ^ G - 1) = true := by rw [isSet_inB]; exact hs
            have HI := Lib.hid hsi
            clear hsi
            go_wp2_with fail
            go_quiet ((first | (go_at_call 83; first | exact q_same2 (l2Full_any G _ (by omega)) | exact q_same (l2Full_any G _ (by omega))) | (go_at_call 60; first | exact q_bool2 (l1In_any _ _ _ _) HI.out | exact q_bool (l1In_any _ _ _ _) HI.out)))
            go_wp2
            go_roundw
            case rel => exact ⟨k + 1, m + nq, by omega, by go_num, by simp, by rw [all_take_succ _ _ _ hlt, HS.out, hs]; rfl⟩
            case measure => simp [intOf]; omega
        · go_wp2
          go_ret
          refine ⟨ret_bool ?_, (Below.refl _ _).drewN' _⟩
          rw [HX.out, ← all_of_take (isSet G) l k (by omega), HS.out]
    · have hx : fewB G l = false := by unfold fewB; rw [decide_eq_false hl6]; rfl
      have hli : (6 : Int) < l.length := by omega
      have HX := Lib.hid hx
      clear hx hc hg
      go_enter Try.func98, Try.ntmps98
      go_wp2_with (go_at_call 60; refine (l1In_any _ _ _ _).mono ?_; rintro e w' ⟨rfl, rfl⟩)
      go_ret
      exact ⟨by rw [HX.out]; rfl, Below.refl _ _⟩

/-! the elements of a difference -/
theorem nbit_diff : ∀ x : Nat, x < 64 → ∀ u : Nat, u < 64 → ∀ e : Nat, e < 6 → nbit (ndiff x u) e = (nbit x e && !nbit u e) := by decide +kernel
theorem chosen_congr (P Q : Nat → Bool) (n : Nat) (h : ∀ e, e < n → P e = Q e) : chosen P n = chosen Q n := by
  induction n with
  | zero => rfl
  | succ n ih => rw [chosen_succ, chosen_succ, ih (fun e he => h e (by omega)), h n (by omega)]
theorem chosen_prefix (P : Nat → Bool) (k n : Nat) (h : k ≤ n) : chosen P n = chosen P k ++ (chosen P n).drop (chosen P k).length := by
  induction n with
  | zero =>
    have : k = 0 := by omega
    subst this; rfl
  | succ n ih =>
    by_cases hk : k = n + 1
    · subst hk; simp
    · have := ih (by omega)
      rw [chosen_succ]
      split
      · rw [List.drop_append_of_le_length (by have := congrArg List.length this; rw [List.length_append] at this; omega), ← List.append_assoc, ← this]
      · exact this
theorem elL_diff (x u G : Nat) (hG : G ≤ 6) (hx : x < 2 ^ G) (hu : u < 64) : elL (idif (x : Int) (u : Int)) = chosen (fun e => nbit x e && !nbit u e) G := by
  have hx64 : x < 64 := Nat.lt_of_lt_of_le hx (Nat.pow_le_pow_right (n := 2) (by decide) hG)
  have hd : ndiff x u < 2 ^ G := ndiff_lt x u _ hx
  have e1 : elL (idif (x : Int) (u : Int)) = famOf (ndiff x u) 6 := by
    unfold elL idif; rfl
  rw [e1, famOf_same (ndiff x u) 6 G (Nat.lt_of_lt_of_le hd (Nat.pow_le_pow_right (by decide) hG)) hd]
  unfold famOf
  exact chosen_congr _ _ G (fun e he => nbit_diff x hx64 u hu e (by omega))
theorem ibit_zero (c s : Nat) : (ibit (c : Int) s == 0) = !nbit c s := by
  have h := nbit_is c s
  have h2 : ibit (c : Int) s = 0 ∨ ibit (c : Int) s = 1 := by
    unfold ibit
    omega
  rcases h2 with h2 | h2
  · rw [h2] at h ⊢; rw [← h]; rfl
  · rw [h2] at h ⊢; rw [← h]; rfl

set_option maxHeartbeats 4000000 in
set_option maxRecDepth 100000 in
theorem find28_any (l : List Int) (lv : Value) (G : Nat) (hG : G ≤ 6) (hm : ∀ x ∈ l, 0 ≤ x ∧ x < 2 ^ G) (hl6 : l.length ≤ 6) : ∀ (n : Nat) (used : Nat) (list : List Int) (v : Value) (w : World) (B : Nat), list.length + n = l.length → Ints w lv l → OwnI 3 B w v list → B ≤ w.heap.size → used < 64 →
    Calls Try.prog 99 #[.int .i64 G, lv, v, .int .i64 used] w fun e w' => ∃ ad i cp, e = .returned (.tuple #[.slice ad i cp, .bool (repG l n used list).isSome]) ∧ OwnI 3 B w' (.slice ad i cp) ((repG l n used list).getD []) ∧ Below w.heap.size w w' := by
  have HM := Lib.hid hm
  clear hm
  intro n
  induction n with
  | zero =>
    intro used list v w B hn hlv own hB hu
    obtain ⟨a, c, rfl⟩ := hlv.shape
    obtain ⟨av, cv, rfl⟩ := own.shape
    have ht : ((list.length : Int) == (l.length : Int)) = true := by simp; omega
    have HN := Lib.hid hn
    clear hn
    go_enter Try.func99, Try.ntmps99
    go_wp2_with fail
    go_ret2
    exact ⟨av, list.length, cv, rfl, own, Below.refl _ _⟩
  | succ n ih =>
    intro used list v w B hn hlv own hB hu
    have hlv0 := hlv
    obtain ⟨a, b, off, c, rfl, hlen, hix, hc, hb⟩ := hlv.view Try.prog 24 3 Try.underlying24 intElem
    obtain ⟨av, cv, rfl⟩ := own.shape
    have hlt : list.length < l.length := by omega
    have ht : ((list.length : Int) == (l.length : Int)) = false := by simp; omega
    have hxb := HM.out _ (List.getElem_mem hlt)
    have hcell := hc list.length hlt
    have hbw : b < w.heap.size := World.block_lt_of_cell? _ _ hcell
    have hixk := fun W => hix W list.length hlt
    have hrep := repG_succ l n used list
    rw [getD_at l list.length hlt] at hrep
    obtain ⟨x, hx⟩ : ∃ x : Nat, l[list.length] = (x : Int) := ⟨l[list.length].toNat, by omega⟩
    rw [hx] at hxb hcell hrep
    have hxG : x < 2 ^ G := by have := hxb.2; exact_mod_cast this
    have hx64 : x < 64 := Nat.lt_of_lt_of_le hxG (Nat.pow_le_pow_right (n := 2) (by decide) hG)
    rw [elL_diff x used G hG hxG hu] at hrep
    obtain ⟨P, hP⟩ : ∃ P : Nat → Bool, P = fun e => nbit x e && !nbit used e := ⟨_, rfl⟩
    obtain ⟨F, hF⟩ : ∃ F : Int → Option (List Int), F = repOne l n used list := ⟨_, rfl⟩
    rw [← hF, ← hP] at hrep
    have HN := Lib.hid hn
    have HF := Lib.hid hF
    have HP := Lib.hid hP
    have IH := Lib.hid ih
    have HREP := Lib.hid hrep
    clear hn hx hF hP ih hc hix hxb hrep hxG
    go_enter Try.func99, Try.ntmps99
    go_wp2_with fail
    go_loopw [10] (fun i wr => ∃ k : Nat, k ≤ G ∧ i = .int .i64 k ∧ (chosen P k).findSome? F = none ∧ Below w.heap.size w wr) (fun i _ => G - (intOf i).toNat)
    case atStart => exact ⟨0, Nat.zero_le _, rfl, rfl, Below.refl _ _⟩
    case round =>
      obtain ⟨k, hk, rfl, hnone, Bw⟩ := hrel
      have H := Lib.hid hnone
      clear hnone
      have yw := Bw.size
      have hck : wr.cell? ⟨b, off + list.length, none⟩ = some (.int .i64 (x : Int)) := keep Bw hcell
      by_cases hkG : k < G
      · have ol := own.keep Bw
        have hcs := chosen_succ P k
        have hPk : P k = (nbit x k && !nbit used k) := by rw [HP.out]
        have hbx := bit_is (x : Int) k (by omega) (by omega)
        have hbu := bit_is (used : Int) k (by omega) (by omega)
        have hnx := nbit_is x k
        have hnu := ibit_zero used k
        obtain ⟨y, hy⟩ : ∃ y, y = ibit (x : Int) k := ⟨_, rfl⟩
        obtain ⟨z, hz⟩ : ∃ y, y = ibit (used : Int) k := ⟨_, rfl⟩
        rw [← hy] at hbx hnx
        rw [← hz] at hbu hnu
        have HCS := Lib.hid hcs
        clear hy hz hcs
        cases h1 : nbit x k with
        | false =>
          have hy1 : (y == 1) = false := by rw [hnx, h1]
          have hpf : P k = false := by rw [hPk, h1]; rfl
          have HPF := Lib.hid hpf
          clear h1 hnx hPk hpf hnu
          go_wp2
          go_roundw
          case rel => exact ⟨k + 1, by omega, by go_num, by rw [HCS.out, HPF.out]; exact H.out, Bw⟩
          case measure => simp [intOf]; omega
        | true =>
          have hy1 : (y == 1) = true := by rw [hnx, h1]
          cases h2 : nbit used k with
          | true =>
            have hz1 : (z == 0) = false := by rw [hnu, h2]; rfl
            have hpf : P k = false := by rw [hPk, h1, h2]; rfl
            have HPF := Lib.hid hpf
            clear h1 h2 hnx hPk hpf hnu
            go_wp2
            go_roundw
            case rel => exact ⟨k + 1, by omega, by go_num, by rw [HCS.out, HPF.out]; exact H.out, Bw⟩
            case measure => simp [intOf]; omega
          | false =>
            have hz1 : (z == 0) = true := by rw [hnu, h2]; rfl
            have hpt : P k = true := by rw [hPk, h1, h2]; rfl
            have HPT := Lib.hid hpt
            have hp := pow2_bd' (k : Int) (by omega)
            have hto : (2 : Int) ^ (k : Int).toNat = 2 ^ k := by simp
            rw [hto] at hp
            have hor : bits .or .i64 (used : Int) (2 ^ k) = ior used (2 ^ k) := ior_is (by omega) (by omega) (by omega) (by omega)
            have hob := ior_bd used (2 ^ k) 6 (by omega) (by omega) (by omega) (by omega)
            have hFe : F (k : Int) = repG l n (ior used (2 ^ k)) (list ++ [(k : Int)]) := by rw [HF.out]; unfold repOne; rw [hto]
            obtain ⟨u2, hu2⟩ : ∃ u : Nat, ior used (2 ^ k) = (u : Int) := ⟨(ior used (2 ^ k)).toNat, by omega⟩
            rw [hu2] at hor hob hFe
            have hrec : ∀ (v2 : Value) (w2 : World), OwnI 3 wr.heap.size w2 v2 (([] ++ list) ++ [(k : Int)]) → Below wr.heap.size wr w2 →
                Calls Try.prog 99 #[.int .i64 G, .slice a l.length c, v2, .int .i64 (u2 : Int)] w2 fun e w' => ∃ ad i cp, e = .returned (.tuple #[.slice ad i cp, .bool (F (k : Int)).isSome]) ∧ OwnI 3 wr.heap.size w' (.slice ad i cp) ((F (k : Int)).getD []) ∧ Below w2.heap.size w2 w' := fun v2 w2 q1 q2 => by
              rw [hFe]
              rw [List.nil_append] at q1
              exact IH.out u2 _ v2 w2 wr.heap.size (by have := HN.out; rw [List.length_append, List.length_singleton]; omega) (hlv0.below (Bw.after q2 Bw.size) (Nat.le_refl _)) q1 q2.size (by omega)
            have hhit : ∀ y, F (k : Int) = some y → repG l (n + 1) used list = some y := fun y hyy => by
              rw [HREP.out]
              have e1 : chosen P G = chosen P (k + 1) ++ (chosen P G).drop (chosen P (k + 1)).length := chosen_prefix P (k + 1) G hkG
              rw [e1, List.findSome?_append, HCS.out, HPT.out, if_pos rfl, List.findSome?_append, H.out]
              simp [hyy]
            obtain ⟨R, hR⟩ : ∃ R, R = F (k : Int) := ⟨_, rfl⟩
            simp only [← hR] at hrec hhit
            have HREC := Lib.hid hrec
            have HHIT := Lib.hid hhit
            have HR := Lib.hid hR
            have hL1 : ([] : List Int).length + list.length ≤ 17592186044416 := by simp; omega
            have hL2 : ([] ++ list).length + [(k : Int)].length ≤ 17592186044416 := by simp; omega
            have hXR : InR (k : Int) := ⟨by omega, by omega⟩
            have HLL1 := Lib.hid hL1
            have HLL2 := Lib.hid hL2
            have HXR := Lib.hid hXR
            have hp1 := hp.1
            have hp2 := hp.2
            have hwp : IntKind.i64.wrap ((2 : Int) ^ k) = 2 ^ k := by rw [IntKind.wrap_i64]; omega
            clear hrec hhit hR hFe hu2 hob hto hp h1 h2 hnx hPk hpt hnu hL1 hL2 hXR
            cases R with
            | none =>
              go_wp2_with fail
              go_region_held3 (fun _ => True) (trivial)
                (first
                  | (refine step_put rfl _ _ _ rfl 3 Try.underlying24 intElem wr.heap.size (.slice (some ⟨_, 0, none⟩) 0 0) [] rfl (.slice av list.length cv) list rfl ?_ ?_ HLL1.out wr ?_ (Nat.le_refl _) ?_; (first | (with_reducible exact (OwnI.lit0 wr (Nat.le_refl _)).drew') | (with_reducible exact ((OwnI.lit0 wr (Nat.le_refl _)).alloc _).drew') | (with_reducible exact (OwnI.lit0' wr _).drew')); (first | (with_reducible exact (ol.ints.alloc _).drew') | (with_reducible exact ((ol.ints.alloc _).alloc _).drew')); (first | (with_reducible exact (bl1 wr _).drew) | (with_reducible exact (bl2 wr _ _).drew)); (intro v1 w1 o1 b1 pc))
                  | (refine step_put rfl _ _ _ rfl 3 Try.underlying24 intElem wr.heap.size v1 ([] ++ list) rfl (.slice (some ⟨_, 0, none⟩) 1 1) [(k : Int)] rfl ?_ ?_ HLL2.out wr ?_ (Nat.le_refl _) ?_; (first | (with_reducible exact o1) | (with_reducible exact o1.alloc _)); (refine Ints.one ?_ HXR.out; first | (with_reducible exact cell_new _ _ _ _ _ rfl) | (with_reducible exact pc _ _ (cell_second _ _ _ _) (own_ne1 _ _ _)) | (with_reducible exact pc _ _ (cell_first _ _ _ _) (own_ne2 _ _ _))); (first | (with_reducible exact b1) | (with_reducible exact b1.alloc b1.size _)); (intro v2 w2 o2 b2 _))
                  | (go_at_call 99; with_reducible refine (HREC.out v2 w2 o2 b2).mono ?_; rintro e3 w3 ⟨p3, i3, q3, rfl, o3, b3⟩)
                )
              all_goals
                go_wp2
                go_roundw
                case rel => exact ⟨k + 1, by omega, by go_num, by rw [HCS.out, HPT.out, if_pos rfl, List.findSome?_append, H.out]; simp [← HR.out], (Bw.after b2 Bw.size).after b3 (Bw.after b2 Bw.size).size⟩
                case measure => simp [intOf]; omega
            | some y =>
              have hyes := HHIT.out y rfl
              have HYES := Lib.hid hyes
              clear hyes
              go_wp2_with fail
              go_region_held3 (fun _ => True) (trivial)
                (first
                  | (refine step_put rfl _ _ _ rfl 3 Try.underlying24 intElem wr.heap.size (.slice (some ⟨_, 0, none⟩) 0 0) [] rfl (.slice av list.length cv) list rfl ?_ ?_ HLL1.out wr ?_ (Nat.le_refl _) ?_; (first | (with_reducible exact (OwnI.lit0 wr (Nat.le_refl _)).drew') | (with_reducible exact ((OwnI.lit0 wr (Nat.le_refl _)).alloc _).drew') | (with_reducible exact (OwnI.lit0' wr _).drew')); (first | (with_reducible exact (ol.ints.alloc _).drew') | (with_reducible exact ((ol.ints.alloc _).alloc _).drew')); (first | (with_reducible exact (bl1 wr _).drew) | (with_reducible exact (bl2 wr _ _).drew)); (intro v1 w1 o1 b1 pc))
                  | (refine step_put rfl _ _ _ rfl 3 Try.underlying24 intElem wr.heap.size v1 ([] ++ list) rfl (.slice (some ⟨_, 0, none⟩) 1 1) [(k : Int)] rfl ?_ ?_ HLL2.out wr ?_ (Nat.le_refl _) ?_; (first | (with_reducible exact o1) | (with_reducible exact o1.alloc _)); (refine Ints.one ?_ HXR.out; first | (with_reducible exact cell_new _ _ _ _ _ rfl) | (with_reducible exact pc _ _ (cell_second _ _ _ _) (own_ne1 _ _ _)) | (with_reducible exact pc _ _ (cell_first _ _ _ _) (own_ne2 _ _ _))); (first | (with_reducible exact b1) | (with_reducible exact b1.alloc b1.size _)); (intro v2 w2 o2 b2 _))
                  | (go_at_call 99; with_reducible refine (HREC.out v2 w2 o2 b2).mono ?_; rintro e3 w3 ⟨p3, i3, q3, rfl, o3, b3⟩)
                )
              all_goals
                go_wp2
                go_ret2
                exact ⟨p3, i3, q3, by rw [HYES.out]; rfl, by rw [HYES.out]; exact o3.mono (by omega), (Bw.after b2 Bw.size).after b3 (Bw.after b2 Bw.size).size⟩
      · have hnil : repG l (n + 1) used list = none := by rw [HREP.out, show G = k by omega]; exact H.out
        have HNIL := Lib.hid hnil
        clear hnil
        go_wp2
        go_ret2
        exact ⟨_, 0, 0, by rw [HNIL.out]; rfl, by rw [HNIL.out]; exact (OwnI.lit0 wr (Nat.le_refl _)).mono (by omega), Bw.alloc Bw.size _⟩

set_option maxHeartbeats 2000000 in
set_option maxRecDepth 100000 in
theorem repS_c (w : World) (g : Int) (_ : InR g) (v : Value) (l : List Int) (hv : Ints w v l) (_ : l.length ≤ 1048576) :
    Calls Try.prog 42 #[.int .i64 g, v] w fun e w' => ∃ ad i cp, e = .returned (.tuple #[.slice ad i cp, .bool (repB g l)]) ∧ OwnW 3 w.heap.size w' (.slice ad i cp) (repL g l) ∧ Below w.heap.size w w' := by
  have hv0 := hv
  obtain ⟨a, c, rfl⟩ := hv.shape
  cases hf : fewB g l with
  | false =>
    have hr : repR g l = none := by unfold repR; rw [hf]; rfl
    have hB : repB g l = false := by unfold repB; rw [hr]; rfl
    have hL : repL g l = [] := repL_none hB
    have H := Lib.hid (And.intro hB hL)
    have HF := Lib.hid hf
    clear hr hB hL hf
    go_enter Try.func42, Try.ntmps42
    go_wp2_with (go_at_call 98; refine (l28Lists_any g l _ _ hv0).mono ?_; rintro e w1 ⟨rfl, hb1⟩; rw [HF.out])
    go_ret2
    exact ⟨_, 0, 0, by rw [H.out.1]; rfl, by rw [H.out.2]; exact ((OwnI.lit0 w1 (Nat.le_refl _)).mono hb1.size).toW, hb1.alloc hb1.size _⟩
  | true =>
    have hr : repR g l = repG l l.length 0 [] := by unfold repR; rw [hf]; rfl
    obtain ⟨hl6, h0, h6, hm, _⟩ := few_ok hf
    obtain ⟨G, rfl⟩ := Int.eq_ofNat_of_zero_le h0
    have hG : G ≤ 6 := by omega
    have hmG : ∀ x ∈ l, 0 ≤ x ∧ x < 2 ^ G := fun x hx => by
      have := hm x hx
      have e2 : (G : Int).toNat = G := by omega
      rw [e2] at this
      exact this
    have HF := Lib.hid hf
    have hB : repB G l = (repG l l.length 0 []).isSome := by unfold repB; rw [hr]
    have hL : repL G l = (repG l l.length 0 []).getD [] := by unfold repL; rw [hr]
    have hfind : ∀ W u, Below w.heap.size w W → OwnI 3 w.heap.size W u [] → Calls Try.prog 99 #[.int .i64 G, .slice a l.length c, u, .int .i64 0] W fun e w' =>
        ∃ ad i cp, e = .returned (.tuple #[.slice ad i cp, .bool (repB G l)]) ∧ OwnI 3 w.heap.size w' (.slice ad i cp) (repL G l) ∧ Below W.heap.size W w' := fun W u hB' hu => by
      rw [hB, hL]
      exact find28_any l _ G hG hmG hl6 l.length 0 [] u W w.heap.size (by simp) (hv0.below hB' (Nat.le_refl _)) hu hB'.size (by omega)
    have HFD := Lib.hid hfind
    clear hr hf hm hl6 hmG hB hL hfind
    go_enter Try.func42, Try.ntmps42
    go_wp2_with (first
      | (go_at_call 98; refine (l28Lists_any G l _ _ hv0).mono ?_; rintro e w1 ⟨rfl, hb1⟩; rw [HF.out])
      | (go_at_call 99; refine (HFD.out _ _ (hb1.alloc hb1.size _) (OwnI.lit0 w1 hb1.size)).mono ?_; rintro e w3 ⟨p3, i3, q3, rfl, o3, b3⟩))
    go_ret2
    exact ⟨p3, i3, q3, rfl, o3.toW, (hb1.alloc hb1.size _).after b3 (hb1.alloc hb1.size _).size⟩

set_option maxHeartbeats 1000000 in
theorem l28Union_any (l : List Int) (v : Value) (w : World) (hv : Ints w v l) (hm : ∀ x ∈ l, 0 ≤ x ∧ x < 64) (hl6 : l.length ≤ 6) (code : Nat) (hcode : code < 64) :
    Calls Try.prog 102 #[v, .int .i64 code] w fun e w' => e = .returned (.int .i64 (unionTo l code l.length)) ∧ w = w' := by
  obtain ⟨a, b, off, c, rfl, hlen, hix, hc, hb⟩ := hv.view Try.prog 24 3 Try.underlying24 intElem
  have HM := Lib.hid hm
  clear hm
  go_enter Try.func102, Try.ntmps102
  go_wp2
  go_loop [5, 6] (fun u i => ∃ k : Nat, k ≤ l.length ∧ i = .int .i64 k ∧ u = .int .i64 (unionTo l code k)) (fun _ i => l.length - (intOf i).toNat)
  case atStart => exact ⟨0, Nat.zero_le _, rfl, rfl⟩
  case round =>
    obtain ⟨k, hk, rfl, rfl⟩ := hrel
    by_cases hlt : k < l.length
    · have hck := hc k hlt
      have hmk := HM.out _ (List.getElem_mem hlt)
      have hub := unionTo_bd l code HM.out k hk
      have hs : unionTo l code (k + 1) = if nbit code k then ior (unionTo l code k) l[k] else unionTo l code k := by rw [unionTo, getD_at l k hlt]
      have hbit := bit_is (code : Int) k (by omega) (by omega)
      have hnb := nbit_is code k
      obtain ⟨y, hy⟩ : ∃ y, y = ibit (code : Int) k := ⟨_, rfl⟩
      rw [← hy] at hbit hnb
      have hor := ior_is hub.1 (show unionTo l code k < 4611686018427387904 by omega) hmk.1 (show l[k] < 4611686018427387904 by omega)
      obtain ⟨u, hu⟩ : ∃ u, u = unionTo l code k := ⟨_, rfl⟩
      rw [← hu] at hor hs ⊢
      have HS := Lib.hid hs
      clear hs hy hu hub hmk
      cases hbb : nbit code k with
      | false =>
        have hy1 : (y == 1) = false := by rw [hnb, hbb]
        have HBB := Lib.hid hbb
        clear hbb hnb
        go_wp2
        go_round
        case rel => exact ⟨k + 1, by omega, by go_num, by rw [HS.out, HBB.out]; rfl⟩
        case measure => simp [intOf]; omega
      | true =>
        have hy1 : (y == 1) = true := by rw [hnb, hbb]
        have HBB := Lib.hid hbb
        clear hbb hnb
        go_wp2
        go_round
        case rel => exact ⟨k + 1, by omega, by go_num, by rw [HS.out, HBB.out, if_pos rfl]⟩
        case measure => simp [intOf]; omega
    · have hkl : k = l.length := by omega
      subst hkl
      go_wp2
      go_ret
      exact ⟨rfl, rfl⟩

set_option maxHeartbeats 2000000 in
set_option maxRecDepth 100000 in
theorem vioS_c (w : World) (g : Int) (_ : InR g) (v : Value) (l : List Int) (hv : Ints w v l) (_ : l.length ≤ 1048576) :
    Calls Try.prog 44 #[.int .i64 g, v] w fun e w' => ∃ ad i cp, e = .returned (.tuple #[.slice ad i cp, .bool (vioB g l)]) ∧ OwnW 3 w.heap.size w' (.slice ad i cp) (vioL g l) ∧ Below w.heap.size w w' := by
  have hv0 := hv
  obtain ⟨a, c, rfl⟩ := hv.shape
  cases hf : fewB g l with
  | false =>
    have hr : vioR g l = none := by unfold vioR; rw [hf]; rfl
    have hB : vioB g l = false := by unfold vioB; rw [hr]; rfl
    have hL : vioL g l = [] := by unfold vioL; rw [hr]
    have H := Lib.hid (And.intro hB hL)
    have HF := Lib.hid hf
    clear hr hB hL hf
    go_enter Try.func44, Try.ntmps44
    go_wp2_with fail
    go_loopw [6] (fun i wr => i = .int .i64 1 ∧ Below w.heap.size w wr) (fun _ _ => 0)
    case atStart => exact ⟨rfl, Below.refl _ _⟩
    case round =>
      obtain ⟨rfl, B⟩ := hrel
      go_wp2_with (go_at_call 98; refine (l28Lists_any g l _ _ (hv0.below B (Nat.le_refl _))).mono ?_; rintro e w1 ⟨rfl, hb1⟩; rw [HF.out])
      have B1 := B.after hb1 B.size
      go_ret2
      exact ⟨_, 0, 0, by rw [H.out.1]; rfl, by rw [H.out.2]; exact ((OwnI.lit0 w1 (Nat.le_refl _)).mono B1.size).toW, B1.alloc B1.size _⟩
  | true =>
    obtain ⟨hl6, _, _, _, hm⟩ := few_ok hf
    obtain ⟨N, hN⟩ : ∃ N : Nat, 2 ^ l.length = N + 1 := ⟨2 ^ l.length - 1, by have := Nat.two_pow_pos l.length; omega⟩
    have hr : vioR g l = firstFrom (lackB l) N 1 := by unfold vioR; rw [hf, if_pos rfl, hN]; exact first_one _ _ (lack_zero l hm)
    have HF := Lib.hid hf
    have HM := Lib.hid hm
    have hp6 : (2 : Nat) ^ l.length ≤ 64 := Nat.pow_le_pow_right (n := 2) (by decide) hl6
    have hpi : ((2 ^ l.length : Nat) : Int) = (2 : Int) ^ l.length := by simp
    have hp1 : (2 : Int) ^ l.length ≤ 64 := by rw [← hpi]; exact_mod_cast hp6
    have hp2 := (two_pow l.length 6 hl6).2
    rw [hN] at hpi hp6
    obtain ⟨P, hP⟩ : ∃ P, P = lackB l := ⟨_, rfl⟩
    rw [← hP] at hr
    have HR := Lib.hid hr
    have HPI := Lib.hid hpi
    have HP := Lib.hid hP
    clear hr hf hm hN hpi hP
    go_enter Try.func44, Try.ntmps44
    go_wp2_with fail
    go_loopw [6] (fun i wr => ∃ k : Nat, k ≤ N ∧ i = .int .i64 ((k : Int) + 1) ∧ firstFrom P (N - k) (k + 1) = firstFrom P N 1 ∧ Below w.heap.size w wr) (fun i _ => N + 1 - (intOf i).toNat)
    case atStart => exact ⟨0, Nat.zero_le _, rfl, rfl, Below.refl _ _⟩
    case round =>
      obtain ⟨k, hk, rfl, hfirst, B⟩ := hrel
      have H := Lib.hid hfirst
      clear hfirst
      by_cases hlt : k < N
      · have hlt2 : (k : Int) + 1 < 2 ^ l.length := by rw [← HPI.out]; omega
        have hstep : firstFrom P (N - k) (k + 1) = if P (k + 1) then some (k + 1) else firstFrom P (N - (k + 1)) (k + 1 + 1) := by
          rw [show N - k = (N - (k + 1)) + 1 by omega]; rfl
        have hPk : P (k + 1) = decide (ipop (unionTo l (k + 1) l.length) < (pop (k + 1) : Int)) := by rw [HP.out]; rfl
        have hun := fun W (hW : Ints W (.slice a l.length c) l) => l28Union_any l _ W hW HM.out hl6 (k + 1) (by omega)
        have hub := unionTo_bd l (k + 1) HM.out l.length (Nat.le_refl _)
        have hcast : ((k + 1 : Nat) : Int) = (k : Int) + 1 := by omega
        simp only [hcast] at hun
        obtain ⟨u, hu⟩ : ∃ u, u = unionTo l (k + 1) l.length := ⟨_, rfl⟩
        rw [← hu] at hPk hub
        simp only [← hu] at hun
        have hsu := fun W => l2Size_i u W hub.1 (by omega)
        have hsk := fun W => l2Size_any (k + 1) W (by omega)
        simp only [hcast] at hsk
        obtain ⟨q, hq⟩ : ∃ q, q = ipop u := ⟨_, rfl⟩
        obtain ⟨r, hr⟩ : ∃ r, r = (pop (k + 1) : Int) := ⟨_, rfl⟩
        rw [← hq] at hPk
        simp only [← hq] at hsu
        rw [← hr] at hPk
        simp only [← hr] at hsk
        have HUN := Lib.hid hun
        have HSU := Lib.hid hsu
        have HSK := Lib.hid hsk
        have HST := Lib.hid hstep
        have hk64 : k + 1 < 64 := by omega
        clear hun hsu hsk hstep hub hu hq hr hcast
        cases hbb : P (k + 1) with
        | false =>
          have hnl : ¬ q < r := by rw [hbb] at hPk; exact of_decide_eq_false hPk.symm
          have HBB := Lib.hid hbb
          clear hbb hPk
          go_wp2_with (first
            | (go_at_call 98; refine (l28Lists_any g l _ _ (hv0.below B (Nat.le_refl _))).mono ?_; rintro e w1 ⟨rfl, hb1⟩; rw [HF.out])
            | (go_at_call 102; refine (HUN.out _ (hv0.below (B.after hb1 B.size) (Nat.le_refl _))).mono ?_; rintro e w2 ⟨rfl, rfl⟩)
            | (go_at_call 59; with_reducible refine (HSU.out _).mono ?_; rintro e w3 ⟨rfl, rfl⟩)
            | (go_at_call 59; with_reducible refine (HSK.out _).mono ?_; rintro e w4 ⟨rfl, rfl⟩))
          go_roundw
          case rel => exact ⟨k + 1, by omega, by go_num, by rw [← H.out, HST.out, HBB.out]; rfl, B.after hb1 B.size⟩
          case measure => simp [intOf]; omega
        | true =>
          have hyl : q < r := by rw [hbb] at hPk; exact of_decide_eq_true hPk.symm
          have hR : vioR g l = some (k + 1) := by rw [HR.out, ← H.out, HST.out, hbb]; rfl
          have hB : vioB g l = true := by unfold vioB; rw [hR]; rfl
          have hL : vioL g l = elL ((k : Int) + 1) := by unfold vioL; rw [hR]; show elL (((k + 1 : Nat) : Int)) = _; congr 1
          have HB := Lib.hid (And.intro hB hL)
          clear hbb hPk hR hB hL
          go_wp2_with (first
            | (go_at_call 98; refine (l28Lists_any g l _ _ (hv0.below B (Nat.le_refl _))).mono ?_; rintro e w1 ⟨rfl, hb1⟩; rw [HF.out])
            | (go_at_call 102; refine (HUN.out _ (hv0.below (B.after hb1 B.size) (Nat.le_refl _))).mono ?_; rintro e w2 ⟨rfl, rfl⟩)
            | (go_at_call 59; with_reducible refine (HSU.out _).mono ?_; rintro e w3 ⟨rfl, rfl⟩)
            | (go_at_call 59; with_reducible refine (HSK.out _).mono ?_; rintro e w4 ⟨rfl, rfl⟩)
            | (go_at_call 103; refine (l2List_i ((k : Int) + 1) _ (by omega) (by omega)).mono ?_; rintro e w5 ⟨p5, i5, q5, rfl, o5, hb5⟩))
          have B1 := B.after hb1 B.size
          go_ret2
          exact ⟨p5, i5, q5, by rw [HB.out.1]; rfl, by rw [HB.out.2]; exact o5.toW.mono B1.size, B1.after hb5 B1.size⟩
      · have hlt2 : ¬ (k : Int) + 1 < 2 ^ l.length := by rw [← HPI.out]; omega
        have hR : vioR g l = none := by rw [HR.out, ← H.out, show N - k = 0 by omega]; rfl
        have hB : vioB g l = false := by unfold vioB; rw [hR]; rfl
        have hL : vioL g l = [] := by unfold vioL; rw [hR]
        have HB := Lib.hid (And.intro hB hL)
        clear hR hB hL
        go_wp2_with (go_at_call 98; refine (l28Lists_any g l _ _ (hv0.below B (Nat.le_refl _))).mono ?_; rintro e w1 ⟨rfl, hb1⟩; rw [HF.out])
        have B1 := B.after hb1 B.size
        go_ret2
        exact ⟨_, 0, 0, by rw [HB.out.1]; rfl, by rw [HB.out.2]; exact ((OwnI.lit0 w1 (Nat.le_refl _)).mono B1.size).toW, B1.alloc B1.size _⟩
end Go.Proofs.Ytmfenalnmpndmaa
