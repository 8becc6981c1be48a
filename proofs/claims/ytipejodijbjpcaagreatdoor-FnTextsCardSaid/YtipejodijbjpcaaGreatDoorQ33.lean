/- Claims that are made of functions and families are accepted. Lattices of sets and negative parts: the first program. -/
import Derived.Test.YtipejodijbjpcaaGreatDoorQ32
import Derived.Lib.MinMax
section
namespace Go.Proofs.YtipejodijbjpcaaGreatDoor
open Go.RowKit Go.G5

theorem pow_castM (N : Nat) : ((2 ^ N - 1 : Nat) : Int) = (2 : Int) ^ N - 1 := by
  have hp := Nat.two_pow_pos N
  rw [Int.ofNat_sub hp]; simp
/-- the dual vector passes its test -/
theorem dual_ok (n : Int) (l : List Int) (h : duB n l = true) : dvB n l = true ∧ dualV n l (dvL n l) = true := by
  obtain ⟨N, rfl, h5, hl, hg, hsub, hdv, hr⟩ := dual_raised n l h
  refine ⟨hdv, ?_⟩
  have hf := dual_full hsub (gr_zero hg) hl hr
  unfold dualV
  rw [bel_of hg hl hr, Int.toNat_natCast, ← pow_castM, hf]
  have : ((dvL (N : Int) l).all fun y => decide (y ≤ 0)) = true := by
    rw [List.all_eq_true]
    intro y hy
    exact decide_eq_true (hr.bd y hy).2
  rw [this]; simp
theorem mz_iff (l : List Int) (m : Int) : ∀ k x, x ∈ mzTo l m k ↔ ∃ s : Nat, s < k ∧ x = (s : Int) ∧ l.getD s 0 = m := by
  intro k
  induction k with
  | zero => intro x; simp [mzTo]
  | succ k ih =>
    intro x
    rw [mzTo]
    by_cases hc : l.getD k 0 = m
    · rw [if_pos hc, List.mem_append, ih, List.mem_singleton]
      constructor
      · rintro (⟨s, hs, h1, h2⟩ | h)
        · exact ⟨s, by omega, h1, h2⟩
        · exact ⟨k, by omega, h, hc⟩
      · rintro ⟨s, hs, h1, h2⟩
        by_cases e : s = k
        · subst e; exact .inr h1
        · exact .inl ⟨s, by omega, h1, h2⟩
    · rw [if_neg hc, ih]
      constructor
      · rintro ⟨s, hs, h1, h2⟩; exact ⟨s, by omega, h1, h2⟩
      · rintro ⟨s, hs, h1, h2⟩
        refine ⟨s, ?_, h1, h2⟩
        by_cases e : s = k
        · subst e; exact absurd h2 hc
        · omega
/-- minimizers are closed -/
theorem mz_closed {N : Nat} {l : List Int} (hsub : Sub N l) (hl : l.length = 2 ^ N) (A B : Nat) (hA : A < 2 ^ N) (hB : B < 2 ^ N) (a : l.getD A 0 = lstN l) (b : l.getD B 0 = lstN l) : l.getD (A ||| B) 0 = lstN l ∧ l.getD (A &&& B) 0 = lstN l := by
  have h1 := sub_ineq N l hsub A B hA hB
  have h2 := lst_le l l.length (A ||| B) (by rw [hl]; exact Nat.or_lt_two_pow hA hB)
  have h3 := lst_le l l.length (A &&& B) (by rw [hl]; exact Nat.lt_of_le_of_lt Nat.and_le_left hA)
  unfold lstN at *
  omega
theorem mzL_iff (N : Nat) (l : List Int) (hf : isFunB (N : Int) l = true) (hl : l.length = 2 ^ N) (x : Int) : x ∈ mzL (N : Int) l ↔ ∃ s : Nat, s < 2 ^ N ∧ x = (s : Int) ∧ l.getD s 0 = lstN l := by
  unfold mzL
  rw [if_pos hf, mz_iff, hl]
theorem mzL_ne (n : Int) (l : List Int) (hf : isFunB n l = true) : mzL n l ≠ [] := by
  obtain ⟨N, rfl, _, hl, _⟩ := fun_nat hf
  have hp := Nat.two_pow_pos N
  obtain ⟨i, hi, he⟩ := lst_at l (by omega) l.length (Nat.le_refl _)
  unfold mzL
  rw [if_pos hf]
  exact mz_ne l _ i he _ hi
/-- the meet of minimizers is one -/
theorem lm_min (N : Nat) (l : List Int) (hf : isFunB (N : Int) l = true) (hsub : Sub N l) (hl : l.length = 2 ^ N) : ∃ s : Nat, s < 2 ^ N ∧ lmTo (2 ^ N - 1) (mzL (N : Int) l) (mzL (N : Int) l).length = (s : Int) ∧ l.getD s 0 = lstN l := by
  have hin := mzL_iff N l hf hl
  have hne := mzL_ne (N : Int) l hf
  obtain ⟨q, hq⟩ : ∃ q, q = mzL (N : Int) l := ⟨_, rfl⟩
  rw [← hq] at hin hne ⊢
  have hst : ∀ k, 0 < k → k ≤ q.length → ∃ s : Nat, s < 2 ^ N ∧ lmTo (2 ^ N - 1) q k = (s : Int) ∧ l.getD s 0 = lstN l := by
    intro k
    induction k with
    | zero => intro h; omega
    | succ k ih =>
      intro _ hk
      obtain ⟨t, ht, hte, htm⟩ := (hin q[k]).1 (List.getElem_mem (show k < q.length by omega))
      rw [lmTo, getD_at q k (by omega), hte]
      by_cases hk0 : k = 0
      · subst hk0
        refine ⟨t, ht, ?_, htm⟩
        rw [lmTo, ← pow_castM]
        unfold iand
        rw [Int.toNat_natCast, Int.toNat_natCast, Nat.and_comm, Nat.and_two_pow_sub_one_eq_mod, Nat.mod_eq_of_lt ht]
      · obtain ⟨s, hs, hse, hsm⟩ := ih (by omega) (by omega)
        refine ⟨s &&& t, Nat.lt_of_le_of_lt Nat.and_le_left hs, ?_, (mz_closed hsub hl s t hs ht hsm htm).2⟩
        rw [hse]
        unfold iand
        rw [Int.toNat_natCast, Int.toNat_natCast]
  refine hst q.length ?_ (Nat.le_refl _)
  cases q with
  | nil => exact absurd rfl hne
  | cons x r => simp
/-- lattices of sets -/
def isLatB (q : List Int) : Bool := (decide (q.length ≤ 64) && q.all fun y => inB y 0 1023) && q.all fun a => q.all fun b => has q (ior a b) && has q (iand a b)
theorem mz_lat (n : Int) (l : List Int) (hs : subB n l = true) : isLatB (mzL n l) = true := by
  have hf : isFunB n l = true := by unfold subB at hs; rw [Bool.and_eq_true] at hs; exact hs.1
  obtain ⟨N, rfl, h5, hl, h32, _⟩ := fun_nat hf
  have hsub : Sub N l := (sub_iff N l hf).1 hs
  have hin := mzL_iff N l hf hl
  have hp : (2 : Nat) ^ N ≤ 2 ^ 5 := Nat.pow_le_pow_right (by decide) h5
  unfold isLatB
  have hlen : (mzL (N : Int) l).length ≤ 64 := by
    unfold mzL
    rw [if_pos hf]
    have := mz_len l (lstN l) l.length
    omega
  have h1 : ((mzL (N : Int) l).all fun y => inB y 0 1023) = true := by
    rw [List.all_eq_true]
    intro y hy
    obtain ⟨s, hs, rfl, _⟩ := (hin y).1 hy
    exact inB_true.2 ⟨by omega, by omega⟩
  have h2 : ((mzL (N : Int) l).all fun a => (mzL (N : Int) l).all fun b => has (mzL (N : Int) l) (ior a b) && has (mzL (N : Int) l) (iand a b)) = true := by
    rw [List.all_eq_true]
    intro a ha
    rw [List.all_eq_true]
    intro b hb
    obtain ⟨A, hA, rfl, ea⟩ := (hin a).1 ha
    obtain ⟨B, hB, rfl, eb⟩ := (hin b).1 hb
    have hc := mz_closed hsub hl A B hA hB ea eb
    rw [Bool.and_eq_true, has_true, has_true, hin, hin]
    refine ⟨⟨A ||| B, Nat.or_lt_two_pow hA hB, ?_, hc.1⟩, ⟨A &&& B, Nat.lt_of_le_of_lt Nat.and_le_left hA, ?_, hc.2⟩⟩
    · unfold ior; rw [Int.toNat_natCast, Int.toNat_natCast]
    · unfold iand; rw [Int.toNat_natCast, Int.toNat_natCast]
  rw [decide_eq_true hlen, h1, h2]; rfl
/-- negative parts -/
def npTo (x : List Int) : Nat → Int
  | 0 => 0
  | k + 1 => npTo x k + min (x.getD k 0) 0
def npB (x : List Int) : Bool := decide (x.length ≤ 5) && allIn x (-5000) 5000
def npN (x : List Int) : Int := if npB x then npTo x x.length else 0
theorem dual_np (n : Int) (l : List Int) (h : duB n l = true) : npB (dvL n l) = true ∧ npN (dvL n l) = lstN l := by
  obtain ⟨N, rfl, h5, hl, hg, hsub, hdv, hr⟩ := dual_raised n l h
  have hf := dual_full hsub (gr_zero hg) hl hr
  have hb : npB (dvL (N : Int) l) = true := by
    unfold npB allIn
    rw [decide_eq_true (by rw [hr.len]; exact h5), Bool.true_and, List.all_eq_true]
    intro y hy
    have := hr.bd y hy
    exact inB_true.2 ⟨by omega, by omega⟩
  refine ⟨hb, ?_⟩
  unfold npN
  rw [if_pos hb, ← hf]
  unfold wt
  have : ∀ k, k ≤ (dvL (N : Int) l).length → npTo (dvL (N : Int) l) k = wtTo (dvL (N : Int) l) ((2 ^ N - 1 : Nat) : Int) k := by
    intro k
    induction k with
    | zero => intro _; rfl
    | succ k ih =>
      intro hk
      have hy := hr.bd _ (List.getElem_mem (show k < (dvL (N : Int) l).length by omega))
      have hb : (2 ^ N - 1).testBit k = true := by rw [Nat.testBit_two_pow_sub_one]; exact decide_eq_true (by have := hr.len; omega)
      rw [npTo, wtTo, ih (by omega), if_pos ((ibit_nbit _ _).2 hb), getD_at _ k (by omega)]
      omega
  exact this _ (Nat.le_refl _)
theorem run_mem (l : List Int) : ∀ (T : List Tri) (t : Tri), (runT (vstep l) T none).1 = some t → t ∈ T := by
  intro T
  induction T with
  | nil => intro t h; simp [runT] at h
  | cons u T ih =>
    intro t h
    rw [runT] at h
    by_cases hb : badB l u = true
    · have e : vstep l none u = (some u, false) := by unfold vstep; rw [if_pos hb]
      rw [e] at h
      simp at h
      rw [← h]; simp
    · have e : vstep l none u = (none, true) := by unfold vstep; rw [if_neg hb]; rfl
      rw [e] at h
      exact List.mem_cons_of_mem _ (ih t h)
/-- a violation that is found is one -/
theorem vio_ok (n : Int) (l : List Int) (h : violB n l = true) : chkVio n l (violL n l) = true := by
  have hf : isFunB n l = true := by
    cases hf : isFunB n l with
    | true => rfl
    | false => unfold violB violR at h; rw [hf] at h; cases h
  obtain ⟨N, rfl, h5, hl, _⟩ := fun_nat hf
  unfold violB at h
  obtain ⟨t, ht⟩ := Option.isSome_iff_exists.1 h
  have hv : violT N l = some t := by
    unfold violR at ht
    rw [if_pos hf, Int.toNat_natCast] at ht
    exact ht
  have hm := run_mem l _ t hv
  have hb := viol_run l _ t hv
  obtain ⟨h1, h2, h3⟩ := tri3_mem N (2 ^ N) t hm
  have hbits := tri3_bits N (2 ^ N) t hm
  have hL : violL (N : Int) l = [(t.1 : Int), (t.2.1 : Int), (t.2.2 : Int)] := by unfold violL; rw [ht]; rfl
  unfold chkVio
  rw [hL, hf]
  show ((true && decide (3 = 3)) && (vioS (N : Int) (t.1 : Int) (t.2.1 : Int) (t.2.2 : Int) && vioT l (t.1 : Int) (t.2.1 : Int) (t.2.2 : Int))) = true
  have hs1 : isSet ((N : Int)).toNat (t.1 : Int) = true := isSet_true.2 ⟨by omega, by rw [Int.toNat_natCast]; exact_mod_cast h1⟩
  have hs2 : isElB (N : Int) (t.2.1 : Int) = true := by unfold isElB; simp; omega
  have hs3 : isElB (N : Int) (t.2.2 : Int) = true := by unfold isElB; simp; omega
  have hne : ((t.2.1 : Int) != (t.2.2 : Int)) = true := by rw [bne_iff_ne]; omega
  unfold vioS vioT
  rw [hs1, hs2, hs3, hne]
  simp only [Int.toNat_natCast]
  rw [hbits.1, hbits.2, hb]
  rfl
/-- what is claimed of a function is accepted -/
theorem cf_ok (n : Int) (l : List Int) (n2 : Int) (l2 : List Int) (n3 : Int) (l3 : List Int) (hg : isGrB n l = true) : chkB (cfK n l) (cfA n l) (cfL n l) n2 l2 n3 l3 (cfP n l) (cfS n l) (cfE n l) = true := by
  unfold cfK cfA cfL cfP cfS cfE
  simp only [hg, if_true]
  cases hv : violB n l with
  | true =>
    simp only [if_true]
    unfold chkB
    rw [if_neg (by decide), if_pos rfl]
    exact vio_ok n l hv
  | false =>
    simp only [Bool.false_eq_true, if_false]
    unfold chkB
    rw [if_pos rfl]
    have hs : subB n l = true := by unfold subB; rw [grOk hg, hv]; rfl
    have hdu : duB n l = true := by unfold duB; rw [hg, hs]; rfl
    have hd := (dual_ok n l hdu).2
    obtain ⟨N, rfl, h5, hl, _⟩ := fun_nat (grOk hg)
    obtain ⟨s, hs1, hs2, hs3⟩ := lm_min N l (grOk hg) ((sub_iff N l (grOk hg)).1 hs) hl
    have hlm : lmN (N : Int) l = (s : Int) := by unfold lmN; rw [if_pos hs, Int.toNat_natCast]; exact hs2
    unfold chkMin
    have hw : (wt (dvL (N : Int) l) (2 ^ ((N : Int)).toNat - 1) == lstN l) = true := by
      unfold dualV at hd
      simp only [Bool.and_eq_true] at hd
      exact hd.2.2
    have hset : isSet ((N : Int)).toNat (s : Int) = true := isSet_true.2 ⟨by omega, by rw [Int.toNat_natCast]; exact_mod_cast hs1⟩
    rw [hd, hlm, hset, hw, Int.toNat_natCast, hs3]
    simp
theorem idx_elL : ∀ N : Nat, N < 7 → ∀ c : Nat, c < 2 ^ N → idxL (N : Int) (elL (c : Int)) 0 = (c : Int) := by decide +kernel
/-- what is claimed of a family is accepted -/
theorem ch_ok (g : Int) (l : List Int) (n1 : Int) (l1 : List Int) (n2 : Int) (l2 : List Int) (st : Int) (h : hcOk g l = true) : chkB (hcK g l) n1 l1 n2 l2 (hcG g l) (hcF g l) (hcN g l) st (hcL g l) = true := by
  have hh := h
  unfold hcOk at h
  rw [Bool.and_eq_true, decide_eq_true_eq] at h
  obtain ⟨hf, h6⟩ := h
  have hfew : fewB g l = true := by
    unfold fewB
    rw [decide_eq_true h6, Bool.true_and]
    unfold isFamB at hf
    rw [Bool.and_eq_true] at hf
    exact hf.1
  have hfa := (hall_facts g l).few hfew
  unfold hcK hcG hcF hcN hcL
  simp only [hh, if_true, Bool.true_and]
  unfold chkB
  rw [if_neg (by decide), if_neg (by decide), if_neg (by decide), if_neg (by decide), if_neg (by decide), if_neg (by decide), if_pos rfl]
  unfold chkHall
  rw [hf, Bool.true_and]
  cases hr : repB g l with
  | true =>
    simp only [if_true]
    exact rep_isRep g l hr
  | false =>
    have hv : vioB g l = true := by rw [hfa.1, hr]; rfl
    simp only [Bool.false_eq_true, if_false]
    rw [if_neg (by decide), decide_eq_true h6]
    show (true && true && hallT l (vioL g l)) = true
    rw [Bool.and_self, Bool.true_and]
    unfold vioB at hv
    obtain ⟨c, hc⟩ := Option.isSome_iff_exists.1 hv
    have hL : vioL g l = elL (c : Int) := by unfold vioL; rw [hc]
    unfold vioR at hc
    rw [hfew, if_pos rfl] at hc
    have hlt := firstFrom_lt _ _ _ _ hc
    have hp := first_at _ _ _ _ hc
    rw [Nat.zero_add] at hlt
    have hix := idx_elL l.length (by omega) c hlt
    unfold lackB at hp
    have hp := of_decide_eq_true hp
    have hc0 : 0 < c := by
      refine Nat.pos_of_ne_zero fun e => ?_
      subst e
      rw [pop_zero] at hp
      unfold ipop at hp
      omega
    rw [hL]
    unfold hallT
    rw [hix, Int.toNat_natCast]
    have e : ipop (c : Int) = (pop c : Int) := by unfold ipop; rw [Int.toNat_natCast]
    rw [e, decide_eq_true hp, decide_eq_true (by omega)]
    rfl
end Go.Proofs.YtipejodijbjpcaaGreatDoor
end
section
namespace Go.Proofs.YtipejodijbjpcaaGreatDoor
open Go.RowKit Go.G5

theorem ret_np {a b : Int} {x y : Bool} (h : a = b) (k : x = y) : Ending.returned (.tuple #[.int .i64 a, .bool x]) = .returned (.tuple #[.int .i64 b, .bool y]) := by rw [h, k]
theorem npTo_bd (x : List Int) (h : ∀ y ∈ x, -5000 ≤ y ∧ y ≤ 5000) : ∀ k, k ≤ x.length → -5000 * (k : Int) ≤ npTo x k ∧ npTo x k ≤ 0 := by
  intro k
  induction k with
  | zero => intro _; simp [npTo]
  | succ k ih =>
    intro hk
    have ih := ih (by omega)
    have hy := h _ (List.getElem_mem (show k < x.length by omega))
    rw [npTo, getD_at x k (by omega)]
    omega
set_option maxHeartbeats 1000000 in
set_option maxRecDepth 100000 in
theorem negI_any (x : List Int) (v : Value) (w : World) (hv : Ints w v x) :
    Calls Tryz.prog 22 #[v] w fun e w' => e = .returned (.tuple #[.int .i64 (npN x), .bool (npB x)]) ∧ w = w' := by
  obtain ⟨a, b, off, c, rfl, hlen, hix, hc, hb⟩ := hv.view Tryz.prog 22 3 Tryz.underlying22 intElem
  by_cases h5 : 5 < x.length
  · have h5i : (5 : Int) < (x.length : Int) := by omega
    have hnb : npB x = false := by unfold npB; rw [decide_eq_false (by omega)]; rfl
    have hnn : npN x = 0 := by unfold npN; rw [hnb]; rfl
    have HN := Lib.hid (And.intro hnb hnn)
    clear hnb hnn
    go_enter Tryz.func22, Tryz.ntmps22
    go_wp2
    go_ret2
    exact ⟨ret_np HN.out.2.symm HN.out.1.symm, rfl⟩
  have h5i : ¬ (5 : Int) < (x.length : Int) := by omega
  have haw := areWithin_any x _ (-5000) 5000 w hv
  cases ha : allIn x (-5000) 5000 with
  | false =>
    have hnb : npB x = false := by unfold npB; rw [ha]; simp
    have hnn : npN x = 0 := by unfold npN; rw [hnb]; rfl
    rw [ha] at haw
    have HN := Lib.hid (And.intro hnb hnn)
    have HA := Lib.hid haw
    clear hnb hnn haw ha
    go_enter Tryz.func22, Tryz.ntmps22
    go_wp2_with fail
    refine HA.out.mono ?_
    rintro e w' ⟨rfl, rfl⟩
    go_wp2
    go_ret2
    exact ⟨ret_np HN.out.2.symm HN.out.1.symm, rfl⟩
  | true =>
    have hnb : npB x = true := by unfold npB; rw [ha, decide_eq_true (by omega)]; rfl
    have hnn : npN x = npTo x x.length := by unfold npN; rw [hnb]; rfl
    have hbd : ∀ y ∈ x, -5000 ≤ y ∧ y ≤ 5000 := fun y hy => by
      unfold allIn at ha
      exact inB_true.1 (List.all_eq_true.1 ha y hy)
    have hnp := npTo_bd x hbd
    rw [ha] at haw
    have HN := Lib.hid (And.intro hnb hnn)
    have HA := Lib.hid haw
    have HNP := Lib.hid hnp
    have HBD := Lib.hid hbd
    have HC := Lib.hid hc
    have HIX := Lib.hid hix
    clear hnb hnn haw ha hnp hbd hc hix
    go_enter Tryz.func22, Tryz.ntmps22
    go_wp2_with fail
    refine HA.out.mono ?_
    rintro e w' ⟨rfl, rfl⟩
    go_wp2_with fail
    go_loop [17, 4] (fun iv sv => ∃ k : Nat, k ≤ x.length ∧ iv = .int .i64 k ∧ sv = .int .i64 (npTo x k)) (fun iv _ => x.length - (intOf iv).toNat)
    case atStart => exact ⟨0, Nat.zero_le _, rfl, rfl⟩
    case round =>
      obtain ⟨k, hk, rfl, rfl⟩ := hrel
      have hn1 := HNP.out k hk
      by_cases hlt : k < x.length
      · have hlt2 : (k : Int) < (x.length : Int) := by omega
        have ck := HC.out k hlt
        have ik := fun W => HIX.out W k hlt
        have hs : npTo x (k + 1) = npTo x k + min x[k] 0 := by rw [npTo, getD_at x k hlt]
        have hy := HBD.out _ (List.getElem_mem hlt)
        obtain ⟨y, hye⟩ : ∃ y, y = x[k] := ⟨_, rfl⟩
        rw [← hye] at ck hs hy
        obtain ⟨m, hm⟩ : ∃ m, m = npTo x k := ⟨_, rfl⟩
        rw [← hm] at hs hn1 ⊢
        have HS := Lib.hid hs
        clear hye hm hs
        by_cases hy0 : y < 0
        · have hmn : min y 0 = y := by omega
          have HMN := Lib.hid hmn
          clear hmn
          go_wp2
          go_round
          case rel => exact ⟨k + 1, by omega, by go_num, by rw [HS.out]; try rw [HMN.out]⟩
          case measure => simp [intOf]; omega
        · have hmn : min y 0 = 0 := by omega
          have HMN := Lib.hid hmn
          clear hmn
          go_wp2
          go_round
          case rel => exact ⟨k + 1, by omega, by go_num, by rw [HS.out, HMN.out]; try go_num⟩
          case measure => simp [intOf]; omega
      · have hlt2 : ¬ (k : Int) < (x.length : Int) := by omega
        have hkl : k = x.length := by omega
        have HK := Lib.hid hkl
        clear hkl
        go_wp2
        go_ret2
        exact ⟨ret_np (by rw [HN.out.2, HK.out]) HN.out.1.symm, rfl⟩
def latOne (q : List Int) (a b : Int) : Bool := has q (ior a b) && has q (iand a b)
theorem lat_is {q : List Int} (h1 : q.length ≤ 64) (h2 : allIn q 0 1023 = true) : isLatB q = q.all fun a => q.all (latOne q a) := by
  unfold isLatB
  rw [decide_eq_true h1]
  unfold allIn at h2
  rw [h2, Bool.true_and, Bool.true_and]
  rfl
set_option maxHeartbeats 1000000 in
set_option maxRecDepth 100000 in
theorem latI_any (q : List Int) (v : Value) (w : World) (hv : Ints w v q) :
    Calls Tryz.prog 25 #[v] w fun e w' => e = .returned (.bool (isLatB q)) ∧ w = w' := by
  have hv0 := hv
  obtain ⟨a, b, off, c, rfl, hlen, hix, hc, hb⟩ := hv.view Tryz.prog 22 3 Tryz.underlying22 intElem
  by_cases h64 : 64 < q.length
  · have h64i : (64 : Int) < (q.length : Int) := by omega
    have hnb : isLatB q = false := by unfold isLatB; rw [decide_eq_false (by omega)]; rfl
    have HN := Lib.hid hnb
    clear hnb
    go_enter Tryz.func25, Tryz.ntmps25
    go_wp2
    go_ret
    exact ⟨ret_bool HN.out.symm, rfl⟩
  have h64i : ¬ (64 : Int) < (q.length : Int) := by omega
  have haw := areWithin_any q _ 0 1023 w hv
  cases ha : allIn q 0 1023 with
  | false =>
    have hnb : isLatB q = false := by
      have h2 := ha
      unfold allIn at h2
      unfold isLatB; rw [h2]; simp
    rw [ha] at haw
    have HN := Lib.hid hnb
    have HA := Lib.hid haw
    clear hnb haw ha
    go_enter Tryz.func25, Tryz.ntmps25
    go_wp2_with fail
    refine HA.out.mono ?_
    rintro e w' ⟨rfl, rfl⟩
    go_wp2
    go_ret
    exact ⟨ret_bool HN.out.symm, rfl⟩
  | true =>
    have hx := lat_is (q := q) (by omega) ha
    have hbd : ∀ y ∈ q, 0 ≤ y ∧ y ≤ 1023 := fun y hy => by
      unfold allIn at ha
      exact inB_true.1 (List.all_eq_true.1 ha y hy)
    rw [ha] at haw
    have HX := Lib.hid hx
    have HA := Lib.hid haw
    have HBD := Lib.hid hbd
    have HC := Lib.hid hc
    have HIX := Lib.hid hix
    clear hx haw ha hbd hc hix
    go_enter Tryz.func25, Tryz.ntmps25
    go_wp2_with fail
    refine HA.out.mono ?_
    rintro e w' ⟨rfl, rfl⟩
    go_wp2_with fail
    go_loop [17] (fun iv => ∃ j : Nat, j ≤ q.length ∧ iv = .int .i64 j ∧ (q.take j).all (fun a => q.all (latOne q a)) = true) (fun iv => q.length - (intOf iv).toNat)
    case atStart => exact ⟨0, Nat.zero_le _, rfl, rfl⟩
    case round =>
      obtain ⟨j, hj, rfl, hall⟩ := hrel
      have HALL := Lib.hid hall
      clear hall
      by_cases hlt : j < q.length
      · have hlt2 : (j : Int) < (q.length : Int) := by omega
        have ck := HC.out j hlt
        have ik := fun W => HIX.out W j hlt
        have htk : (q.take (j + 1)).all (fun a => q.all (latOne q a)) = q.all (latOne q q[j]) := by rw [List.take_succ_eq_append_getElem hlt, List.all_append, HALL.out]; simp
        have hmem := List.getElem_mem hlt
        obtain ⟨x, hxe⟩ : ∃ x, x = q[j] := ⟨_, rfl⟩
        rw [← hxe] at ck htk hmem
        have hxb := HBD.out x hmem
        have HTK := Lib.hid htk
        have HMEM := Lib.hid hmem
        clear htk hmem hxe
        go_wp2_with fail
        clear ck ik
        go_loop [23] (fun iv => ∃ k : Nat, k ≤ q.length ∧ iv = .int .i64 k ∧ (q.take k).all (latOne q x) = true) (fun iv => q.length - (intOf iv).toNat)
        case atStart => exact ⟨0, Nat.zero_le _, rfl, rfl⟩
        case round =>
          obtain ⟨k, hk, rfl, hall⟩ := hrel
          have HALL2 := Lib.hid hall
          clear hall
          by_cases hlk : k < q.length
          · have hlk2 : (k : Int) < (q.length : Int) := by omega
            have ck := HC.out k hlk
            have ik := fun W => HIX.out W k hlk
            have htk : (q.take (k + 1)).all (latOne q x) = latOne q x q[k] := by rw [List.take_succ_eq_append_getElem hlk, List.all_append, HALL2.out]; simp
            have hmem := List.getElem_mem hlk
            obtain ⟨y, hye⟩ : ∃ y, y = q[k] := ⟨_, rfl⟩
            rw [← hye] at ck htk hmem
            have hyb := HBD.out y hmem
            have hor := ior_is hxb.1 (by omega) hyb.1 (by omega)
            have han := iand_is hxb.1 (show x < 4611686018427387904 by omega) hyb.1 (show y < 4611686018427387904 by omega)
            have hone : latOne q x y = (has q (ior x y) && has q (iand x y)) := rfl
            have hc1 := slContains_any q _ (ior x y) w hv0
            have hc2 := slContains_any q _ (iand x y) w hv0
            have hfal : latOne q x y = false → (q.all fun a => q.all (latOne q a)) = false := fun h => by
              cases hq : (q.all fun a => q.all (latOne q a)) with
              | false => rfl
              | true =>
                have := List.all_eq_true.1 (List.all_eq_true.1 hq x HMEM.out) y hmem
                rw [h] at this; cases this
            obtain ⟨b1, hb1⟩ : ∃ b, b = has q (ior x y) := ⟨_, rfl⟩
            obtain ⟨b2, hb2⟩ : ∃ b, b = has q (iand x y) := ⟨_, rfl⟩
            obtain ⟨u1, hu1⟩ : ∃ b, b = ior x y := ⟨_, rfl⟩
            obtain ⟨u2, hu2⟩ : ∃ b, b = iand x y := ⟨_, rfl⟩
            rw [← hb1] at hone hc1
            rw [← hb2] at hone hc2
            rw [← hu1] at hor hc1
            rw [← hu2] at han hc2
            have HC1 := Lib.hid hc1
            have HC2 := Lib.hid hc2
            have HTK2 := Lib.hid htk
            have HONE := Lib.hid hone
            have HFAL := Lib.hid hfal
            clear hc1 hc2 htk hone hfal hmem hye hb1 hb2 hu1 hu2
            cases b1 with
            | false =>
              have hf := HFAL.out (by rw [HONE.out]; rfl)
              have HF := Lib.hid hf
              clear hf
              go_wp2_with fail
              refine HC1.out.mono ?_
              rintro e w' ⟨rfl, rfl⟩
              go_wp2
              go_ret
              exact ⟨ret_bool (by rw [HX.out, HF.out]), rfl⟩
            | true =>
              cases b2 with
              | false =>
                have hf := HFAL.out (by rw [HONE.out]; rfl)
                have HF := Lib.hid hf
                clear hf
                go_wp2_with fail
                refine HC1.out.mono ?_
                rintro e w' ⟨rfl, rfl⟩
                go_wp2_with fail
                refine HC2.out.mono ?_
                rintro e w' ⟨rfl, rfl⟩
                go_wp2
                go_ret
                exact ⟨ret_bool (by rw [HX.out, HF.out]), rfl⟩
              | true =>
                have ht : (q.take (k + 1)).all (latOne q x) = true := by rw [HTK2.out, HONE.out]; rfl
                have HT := Lib.hid ht
                clear ht
                go_wp2_with fail
                refine HC1.out.mono ?_
                rintro e w' ⟨rfl, rfl⟩
                go_wp2_with fail
                refine HC2.out.mono ?_
                rintro e w' ⟨rfl, rfl⟩
                go_wp2
                go_round
                case rel => exact ⟨k + 1, by omega, by go_num, HT.out⟩
                case measure => simp [intOf]; omega
          · have hlk2 : ¬ (k : Int) < (q.length : Int) := by omega
            have hh := HALL2.out
            rw [List.take_of_length_le (by omega)] at hh
            have HH := Lib.hid hh
            clear hh
            go_wp2
            go_round
            case rel => exact ⟨j + 1, by omega, by go_num, by rw [HTK.out, HH.out]⟩
            case measure => simp [intOf]; omega
      · have hlt2 : ¬ (j : Int) < (q.length : Int) := by omega
        have hh := HALL.out
        rw [List.take_of_length_le (by omega)] at hh
        have HH := Lib.hid hh
        clear hh
        go_wp2
        go_ret
        exact ⟨ret_bool (by rw [HX.out, HH.out]), rfl⟩
end Go.Proofs.YtipejodijbjpcaaGreatDoor
end
