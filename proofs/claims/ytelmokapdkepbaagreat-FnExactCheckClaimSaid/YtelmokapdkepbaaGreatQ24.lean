/- Representatives and Hall's condition: the first program. Representatives: the search of the first program. Representatives and violators: the first program. Representatives and violators: the second program. The deficiency: both programs. Which lists are representations: plain, and the first program's test of an element. -/
import Derived.Test.YtelmokapdkepbaaGreatQ23
import Derived.Shelf.Abstract
import Derived.Deep.RegionHeld3
import Derived.Deep.CutRange
section
namespace Go.Proofs.YtelmokapdkepbaaGreat
open Go.RowKit Go.G5

theorem areFew_any (g : Int) (l : List Int) (v : Value) (w : World) (hv : Ints w v l) :
    Calls Tryz.prog 101 #[.int .i64 g, v] w fun e w' => e = .returned (.bool (fewB g l)) ∧ w = w' := by
  obtain ⟨a, c, rfl⟩ := hv.shape
  by_cases h : l.length ≤ 6
  · have hx : fewB g l = areSetsB g l := by unfold fewB; rw [decide_eq_true h]; rfl
    have hi : (l.length : Int) ≤ 6 := by omega
    have HX := Lib.hid hx
    clear hx
    go_enter Tryz.func101, Tryz.ntmps101
    go_wp2_with (go_at_call 98; refine (areSets_any g l _ _ hv).mono ?_; rintro e w' ⟨rfl, rfl⟩)
    go_ret
    exact ⟨by rw [HX.out]; rfl, rfl⟩
  · have hx : fewB g l = false := by unfold fewB; rw [decide_eq_false h]; rfl
    have hi : ¬ (l.length : Int) ≤ 6 := by omega
    have HX := Lib.hid hx
    clear hx
    go_enter Tryz.func101, Tryz.ntmps101
    go_wp2
    go_ret
    exact ⟨by rw [HX.out]; rfl, rfl⟩

end Go.Proofs.YtelmokapdkepbaaGreat
end
section
namespace Go.Proofs.YtelmokapdkepbaaGreat
open Go.RowKit Go.G5

def visPost (bo bf B : Nat) (w : World) (R : Option (List Int)) (e : Ending) (w' : World) : Prop := match R with
  | none => e = .returned (.bool true) ∧ Below w.heap.size w w'
  | some x => e = .returned (.bool false) ∧ (∃ ad i cp, OwnI 3 B w' (.slice ad i cp) x ∧ Blk w' bo 22 #[.slice ad i cp]) ∧ Blk w' bf 4 #[.bool true] ∧ GrownIn w w' (fun k => k = bo ∨ k = bf)
end Go.Proofs.YtelmokapdkepbaaGreat
end
section
namespace Go.Proofs.YtelmokapdkepbaaGreat
open Go.RowKit Go.G5

set_option maxHeartbeats 1000000 in
set_option maxRecDepth 100000 in
theorem lackOf_any (l : List Int) (v : Value) (w : World) (hv : Ints w v l) (hm : ∀ x ∈ l, 0 ≤ x ∧ x < 64) (hl6 : l.length ≤ 6) (code : Nat) (hcode : code < 64) :
    Calls Tryz.prog 77 #[v, .int .i64 code] w fun e w' => e = .returned (.int .i64 ((pop code : Int) - ipop (unionTo l code l.length))) ∧ w = w' := by
  obtain ⟨a, b, off, c, rfl, hlen, hix, hc, hb⟩ := hv.view Tryz.prog 22 3 Tryz.underlying22 intElem
  have HM := Lib.hid hm
  clear hm
  go_enter Tryz.func77, Tryz.ntmps77
  go_wp2
  go_loop [5, 10] (fun u i => ∃ k : Nat, k ≤ l.length ∧ i = .int .i64 k ∧ u = .int .i64 (unionTo l code k)) (fun _ i => l.length - (intOf i).toNat)
  case atStart => exact ⟨0, Nat.zero_le _, rfl, rfl⟩
  case round =>
    obtain ⟨k, hk, rfl, rfl⟩ := hrel
    by_cases hlt : k < l.length
    · have hck := hc k hlt
      have hmk := HM.out _ (List.getElem_mem hlt)
      have hub := unionTo_bd l code HM.out k hk
      have hs : unionTo l code (k + 1) = if nbit code k then ior (unionTo l code k) l[k] else unionTo l code k := by rw [unionTo, getD_at l k hlt]
      have hbit := bit_is (code : Int) k (by omega) (by omega)
      have hnb := nbit_is code k
      obtain ⟨y, hy⟩ : ∃ y, y = ibit (code : Int) k := ⟨_, rfl⟩
      rw [← hy] at hbit hnb
      have hor := ior_is hub.1 (show unionTo l code k < 4611686018427387904 by omega) hmk.1 (show l[k] < 4611686018427387904 by omega)
      obtain ⟨u, hu⟩ : ∃ u, u = unionTo l code k := ⟨_, rfl⟩
      rw [← hu] at hor hs ⊢
      have HS := Lib.hid hs
      clear hs hy hu hub hmk
      cases hbb : nbit code k with
      | false =>
        have hy1 : (y == 1) = false := by rw [hnb, hbb]
        have HBB := Lib.hid hbb
        clear hbb hnb
        go_wp2
        go_round
        case rel => exact ⟨k + 1, by omega, by go_num, by rw [HS.out, HBB.out]; rfl⟩
        case measure => simp [intOf]; omega
      | true =>
        have hy1 : (y == 1) = true := by rw [hnb, hbb]
        have HBB := Lib.hid hbb
        clear hbb hnb
        go_wp2
        go_round
        case rel => exact ⟨k + 1, by omega, by go_num, by rw [HS.out, HBB.out, if_pos rfl]⟩
        case measure => simp [intOf]; omega
    · have hkl : k = l.length := by omega
      subst hkl
      have hub := unionTo_bd l code HM.out l.length (Nat.le_refl _)
      obtain ⟨u, hu⟩ : ∃ u, u = unionTo l code l.length := ⟨_, rfl⟩
      rw [← hu] at hub ⊢
      have hpu := ipop_bd u (by omega)
      have hpc := pop_le code (by omega)
      have HU := Lib.hid hu
      have hub0 := hub.1
      have hub1 := hub.2
      clear hu hub
      go_wp2_with (first
        | (go_at_call 102; refine (sizeOf_any code _ (by omega)).mono ?_; rintro e w1 ⟨rfl, rfl⟩)
        | (go_at_call 102; refine (sizeOf_i u _ hub0 (by omega)).mono ?_; rintro e w1 ⟨rfl, rfl⟩))
      go_ret
      exact ⟨ret_int (by rw [← HU.out]), rfl⟩

end Go.Proofs.YtelmokapdkepbaaGreat
end
section
namespace Go.Proofs.YtelmokapdkepbaaGreat
open Go.RowKit Go.G5

set_option maxHeartbeats 1000000 in
theorem l28Lists_any (g : Int) (l : List Int) (v : Value) (w : World) (hv : Ints w v l) :
    Calls Tryz.prog 57 #[.int .i64 g, v] w fun e w' => e = .returned (.bool (fewB g l)) ∧ Below w.heap.size w w' := by
  obtain ⟨a, b, off, c, rfl, hlen, hix, hc, hb⟩ := hv.view Tryz.prog 22 3 Tryz.underlying22 intElem
  cases hin : inB g 0 6 with
  | false =>
    have hx : fewB g l = false := by unfold fewB areSetsB; rw [hin]; simp
    have HX := Lib.hid hx
    clear hx hc
    go_enter Tryz.func57, Tryz.ntmps57
    go_wp2_with (go_at_call 17; refine (l1In_any _ _ _ _).mono ?_; rintro e w' ⟨rfl, rfl⟩)
    go_ret
    exact ⟨by rw [HX.out]; rfl, Below.refl _ _⟩
  | true =>
    have hg := inB_true.1 hin
    obtain ⟨G, rfl⟩ := Int.eq_ofNat_of_zero_le hg.1
    have hG : G ≤ 6 := by omega
    by_cases hl6 : l.length ≤ 6
    · have hx : fewB G l = l.all (isSet G) := by unfold fewB areSetsB; rw [hin, decide_eq_true hl6]; simp
      have hli : ¬ (6 : Int) < l.length := by omega
      have HX := Lib.hid hx
      clear hx hg
      go_enter Tryz.func57, Tryz.ntmps57
      go_wp2_with (go_at_call 17; refine (l1In_any _ _ _ _).mono ?_; rintro e w' ⟨rfl, rfl⟩)
      go_loopw [5] (fun i wr => ∃ k m : Nat, k ≤ l.length ∧ i = .int .i64 k ∧ wr = w.drewN m ∧ (l.take k).all (isSet G) = true) (fun i _ => l.length - (intOf i).toNat)
      case atStart => exact ⟨0, 0, by omega, rfl, rfl, by simp⟩
      case round =>
        obtain ⟨k, m, hk, rfl, rfl, hset⟩ := hrel
        have HS := Lib.hid hset
        clear hset
        by_cases hlt : k < l.length
        · have hck := hc k hlt
          cases hs : isSet G l[k] with
          | false =>
            have hsi : inB l[k] 0 (2 ^ G - 1) = false := by rw [isSet_inB]; exact hs
            have HI := Lib.hid hsi
            clear hsi
            go_wp2_with fail
            go_quiet ((first | (go_at_call 15; first | exact q_same2 (l2Full_any G _ (by omega)) | exact q_same (l2Full_any G _ (by omega))) | (go_at_call 17; first | exact q_bool2 (l1In_any _ _ _ _) HI.out | exact q_bool (l1In_any _ _ _ _) HI.out)))
            go_wp2
            go_ret
            refine ⟨ret_bool ?_, ((Below.refl _ _).drewN' _).drewN' _⟩
            rw [HX.out, all_false_at _ _ _ hlt hs]
          | true =>
            have hsi : inB l[k] 0 (2 ^ G - 1) = true := by rw [isSet_inB]; exact hs
            have HI := Lib.hid hsi
            clear hsi
            go_wp2_with fail
            go_quiet ((first | (go_at_call 15; first | exact q_same2 (l2Full_any G _ (by omega)) | exact q_same (l2Full_any G _ (by omega))) | (go_at_call 17; first | exact q_bool2 (l1In_any _ _ _ _) HI.out | exact q_bool (l1In_any _ _ _ _) HI.out)))
            go_wp2
            go_roundw
            case rel => exact ⟨k + 1, m + nq, by omega, by go_num, by simp, by rw [all_take_succ _ _ _ hlt, HS.out, hs]; rfl⟩
            case measure => simp [intOf]; omega
        · go_wp2
          go_ret
          refine ⟨ret_bool ?_, (Below.refl _ _).drewN' _⟩
          rw [HX.out, ← all_of_take (isSet G) l k (by omega), HS.out]
    · have hx : fewB G l = false := by unfold fewB; rw [decide_eq_false hl6]; rfl
      have hli : (6 : Int) < l.length := by omega
      have HX := Lib.hid hx
      clear hx hc hg
      go_enter Tryz.func57, Tryz.ntmps57
      go_wp2_with (go_at_call 17; refine (l1In_any _ _ _ _).mono ?_; rintro e w' ⟨rfl, rfl⟩)
      go_ret
      exact ⟨by rw [HX.out]; rfl, Below.refl _ _⟩

/-! the elements of a difference -/
theorem nbit_diff : ∀ x : Nat, x < 64 → ∀ u : Nat, u < 64 → ∀ e : Nat, e < 6 → nbit (ndiff x u) e = (nbit x e && !nbit u e) := by decide +kernel
theorem chosen_congr (P Q : Nat → Bool) (n : Nat) (h : ∀ e, e < n → P e = Q e) : chosen P n = chosen Q n := by
  induction n with
  | zero => rfl
  | succ n ih => rw [chosen_succ, chosen_succ, ih (fun e he => h e (by omega)), h n (by omega)]
theorem chosen_prefix (P : Nat → Bool) (k n : Nat) (h : k ≤ n) : chosen P n = chosen P k ++ (chosen P n).drop (chosen P k).length := by
  induction n with
  | zero =>
    have : k = 0 := by omega
    subst this; rfl
  | succ n ih =>
    by_cases hk : k = n + 1
    · subst hk; simp
    · have := ih (by omega)
      rw [chosen_succ]
      split
      · rw [List.drop_append_of_le_length (by have := congrArg List.length this; rw [List.length_append] at this; omega), ← List.append_assoc, ← this]
      · exact this
theorem elL_diff (x u G : Nat) (hG : G ≤ 6) (hx : x < 2 ^ G) (hu : u < 64) : elL (idif (x : Int) (u : Int)) = chosen (fun e => nbit x e && !nbit u e) G := by
  have hx64 : x < 64 := Nat.lt_of_lt_of_le hx (Nat.pow_le_pow_right (n := 2) (by decide) hG)
  have hd : ndiff x u < 2 ^ G := ndiff_lt x u _ hx
  have e1 : elL (idif (x : Int) (u : Int)) = famOf (ndiff x u) 6 := by
    unfold elL idif; rfl
  rw [e1, famOf_same (ndiff x u) 6 G (Nat.lt_of_lt_of_le hd (Nat.pow_le_pow_right (by decide) hG)) hd]
  unfold famOf
  exact chosen_congr _ _ G (fun e he => nbit_diff x hx64 u hu e (by omega))
theorem ibit_zero (c s : Nat) : (ibit (c : Int) s == 0) = !nbit c s := by
  have h := nbit_is c s
  have h2 : ibit (c : Int) s = 0 ∨ ibit (c : Int) s = 1 := by
    unfold ibit
    omega
  rcases h2 with h2 | h2
  · rw [h2] at h ⊢; rw [← h]; rfl
  · rw [h2] at h ⊢; rw [← h]; rfl

set_option maxHeartbeats 1000000 in
theorem l28Union_any (l : List Int) (v : Value) (w : World) (hv : Ints w v l) (hm : ∀ x ∈ l, 0 ≤ x ∧ x < 64) (hl6 : l.length ≤ 6) (code : Nat) (hcode : code < 64) :
    Calls Tryz.prog 31 #[v, .int .i64 code] w fun e w' => e = .returned (.int .i64 (unionTo l code l.length)) ∧ w = w' := by
  obtain ⟨a, b, off, c, rfl, hlen, hix, hc, hb⟩ := hv.view Tryz.prog 22 3 Tryz.underlying22 intElem
  have HM := Lib.hid hm
  clear hm
  go_enter Tryz.func31, Tryz.ntmps31
  go_wp2
  go_loop [5, 6] (fun u i => ∃ k : Nat, k ≤ l.length ∧ i = .int .i64 k ∧ u = .int .i64 (unionTo l code k)) (fun _ i => l.length - (intOf i).toNat)
  case atStart => exact ⟨0, Nat.zero_le _, rfl, rfl⟩
  case round =>
    obtain ⟨k, hk, rfl, rfl⟩ := hrel
    by_cases hlt : k < l.length
    · have hck := hc k hlt
      have hmk := HM.out _ (List.getElem_mem hlt)
      have hub := unionTo_bd l code HM.out k hk
      have hs : unionTo l code (k + 1) = if nbit code k then ior (unionTo l code k) l[k] else unionTo l code k := by rw [unionTo, getD_at l k hlt]
      have hbit := bit_is (code : Int) k (by omega) (by omega)
      have hnb := nbit_is code k
      obtain ⟨y, hy⟩ : ∃ y, y = ibit (code : Int) k := ⟨_, rfl⟩
      rw [← hy] at hbit hnb
      have hor := ior_is hub.1 (show unionTo l code k < 4611686018427387904 by omega) hmk.1 (show l[k] < 4611686018427387904 by omega)
      obtain ⟨u, hu⟩ : ∃ u, u = unionTo l code k := ⟨_, rfl⟩
      rw [← hu] at hor hs ⊢
      have HS := Lib.hid hs
      clear hs hy hu hub hmk
      cases hbb : nbit code k with
      | false =>
        have hy1 : (y == 1) = false := by rw [hnb, hbb]
        have HBB := Lib.hid hbb
        clear hbb hnb
        go_wp2
        go_round
        case rel => exact ⟨k + 1, by omega, by go_num, by rw [HS.out, HBB.out]; rfl⟩
        case measure => simp [intOf]; omega
      | true =>
        have hy1 : (y == 1) = true := by rw [hnb, hbb]
        have HBB := Lib.hid hbb
        clear hbb hnb
        go_wp2
        go_round
        case rel => exact ⟨k + 1, by omega, by go_num, by rw [HS.out, HBB.out, if_pos rfl]⟩
        case measure => simp [intOf]; omega
    · have hkl : k = l.length := by omega
      subst hkl
      go_wp2
      go_ret
      exact ⟨rfl, rfl⟩

end Go.Proofs.YtelmokapdkepbaaGreat
end
section
namespace Go.Proofs.YtelmokapdkepbaaGreat
open Go.RowKit Go.G5

def lackN (l : List Int) (code : Nat) : Int := (pop code : Int) - ipop (unionTo l code l.length)
def defTo (l : List Int) : Nat → Int
  | 0 => 0
  | k + 1 => max (defTo l k) (lackN l k)
def defN (g : Int) (l : List Int) : Int := if fewB g l then defTo l (2 ^ l.length) else -1
theorem lackN_bd (l : List Int) (hm : ∀ x ∈ l, 0 ≤ x ∧ x < 64) (k : Nat) (hk : k < 64) : -8 ≤ lackN l k ∧ lackN l k ≤ 8 := by
  have hub := unionTo_bd l k hm l.length (Nat.le_refl _)
  have hpu := ipop_bd (unionTo l k l.length) (by omega)
  have hpc := pop_le k (by omega)
  unfold lackN
  omega
theorem defTo_bd (l : List Int) (hm : ∀ x ∈ l, 0 ≤ x ∧ x < 64) : ∀ k, k ≤ 64 → 0 ≤ defTo l k ∧ defTo l k ≤ 8 := by
  intro k
  induction k with
  | zero => intro _; simp [defTo]
  | succ k ih =>
    intro hk
    have h1 := ih (by omega)
    have h2 := lackN_bd l hm k (by omega)
    rw [defTo]
    omega
theorem defTo_one (l : List Int) (hm : ∀ x ∈ l, 0 ≤ x ∧ x < 64) : defTo l 1 = 0 := by
  have h := lack_zero l hm
  unfold lackB at h
  have h := of_decide_eq_false h
  show max 0 (lackN l 0) = 0
  unfold lackN
  omega
end Go.Proofs.YtelmokapdkepbaaGreat
end
section
namespace Go.Proofs.YtelmokapdkepbaaGreat
open Go.RowKit Go.G5

def usedAt (x : List Int) : Nat → Nat
  | 0 => 0
  | k + 1 => setBit (usedAt x k) (x.getD k 0).toNat
def rpAt (g : Int) (l x : List Int) (k : Nat) : Bool := (decide (0 ≤ x.getD k 0) && decide (x.getD k 0 < g)) && (nbit (l.getD k 0).toNat (x.getD k 0).toNat && !nbit (usedAt x k) (x.getD k 0).toNat)
def isRepB (g : Int) (l x : List Int) : Bool := fewB g l && (decide (x.length = l.length) && allTo (rpAt g l x) x.length)
theorem usedAt_lt (x : List Int) (G : Nat) : ∀ k, (∀ i, i < k → 0 ≤ x.getD i 0 ∧ x.getD i 0 < (G : Int)) → usedAt x k < 2 ^ G := by
  intro k
  induction k with
  | zero => intro _; exact Nat.two_pow_pos G
  | succ k ih =>
    intro h
    have h1 := ih (fun i hi => h i (by omega))
    have h2 := h k (by omega)
    rw [usedAt]
    exact setBit_lt _ _ _ h1 (by omega)
set_option maxHeartbeats 400000 in
theorem isElem_any (n e : Int) (w : World) :
    Calls Tryz.prog 63 #[.int .i64 n, .int .i64 e] w fun e' w' => e' = .returned (.bool (decide (0 ≤ e) && decide (e < n))) ∧ w = w' := by
  by_cases h0 : 0 ≤ e
  · have t := decide_eq_true h0
    go_enter Tryz.func63, Tryz.ntmps63
    go_wp2
    go_ret
    exact ⟨ret_bool (by first | rfl | (rw [t]; rfl)), rfl⟩
  · have t := decide_eq_false h0
    go_enter Tryz.func63, Tryz.ntmps63
    go_wp2
    go_ret
    exact ⟨ret_bool (by first | rfl | (rw [t]; rfl)), rfl⟩
end Go.Proofs.YtelmokapdkepbaaGreat
end
