/- Sets that contain no other one; blockers. Blockers. Kept blockers: which are right. The elements of a set. -/
import Derived.Test.YtdagcdgbdhecgaaGreatQ29
import Derived.Shelf.Abstract
import Derived.Deep.RegionHeld3
section
namespace Go.Proofs.YtdagcdgbdhecgaaGreat
open Go.RowKit Go.G5

/-! a function value that is asked of the numbers of a slice -/
set_option maxHeartbeats 1000000 in
theorem indexFunc_any (l : List Int) (v : Value) (w : World) (hv : Ints w v l) (c : FuncId) (he : ∀ args w, (callFunc c args).run Tryz.prog w = .ok (.enter c args) w) (g : Nat) (P : Int → Bool)
    (hw : ∀ (t : Int) W', t ∈ l → Below w.heap.size w W' → Calls Tryz.prog c #[.int .i64 t, .pointer (some ⟨g, 0, none⟩)] W' fun e w2 => e = .returned (.bool (P t)) ∧ Below W'.heap.size W' w2) :
    Calls Tryz.prog 79 #[v, .func (.func c) #[] #[.pointer (some ⟨g, 0, none⟩)]] w fun e w' => (∃ i : Int, e = .returned (.int .i64 i) ∧ (0 ≤ i ↔ l.any P = true) ∧ -1 ≤ i ∧ i ≤ 9223372036854775807) ∧ Below w.heap.size w w' := by
  obtain ⟨a, b, off, cp, rfl, hlen, hix, hc, hb⟩ := hv.view Tryz.prog 30 3 Tryz.underlying30 intElem
  have HW := Lib.hid hw
  clear hw
  go_enter Tryz.func79, Tryz.ntmps79
  go_wp2_with fail
  go_loopw [8] (fun i wr => ∃ k : Nat, k ≤ l.length ∧ i = .int .i64 k ∧ (l.take k).any P = false ∧ Below w.heap.size w wr) (fun i _ => l.length - (intOf i).toNat)
  case atStart => exact ⟨0, Nat.zero_le _, rfl, by simp, Below.refl _ _⟩
  case round =>
    obtain ⟨k, hk, rfl, hall, B⟩ := hrel
    have H := Lib.hid hall
    clear hall
    by_cases hlt : k < l.length
    · have hck := cells_below hc hb B (Nat.le_refl _) k hlt
      have hcl := HW.out l[k] wr (List.getElem_mem hlt) B
      have htk : (l.take (k + 1)).any P = ((l.take k).any P || P l[k]) := by rw [List.take_succ_eq_append_getElem hlt, List.any_append]; simp
      have HTK := Lib.hid htk
      clear htk
      cases hP : P l[k] with
      | true =>
        have hh : l.any P = true := List.any_eq_true.2 ⟨_, List.getElem_mem hlt, hP⟩
        have HH := Lib.hid hh
        rw [hP] at hcl
        clear hh hP
        go_wp2_with (go_at_fn c; refine hcl.mono ?_; rintro e w2 ⟨rfl, hb2⟩)
        go_ret
        exact ⟨⟨k, rfl, by rw [HH.out]; simp, by omega, by omega⟩, B.after hb2 B.size⟩
      | false =>
        have HP := Lib.hid hP
        rw [hP] at hcl
        clear hP
        go_wp2_with (go_at_fn c; refine hcl.mono ?_; rintro e w2 ⟨rfl, hb2⟩)
        go_roundw
        case rel => exact ⟨k + 1, by omega, by go_num, by rw [HTK.out, H.out, HP.out]; rfl, B.after hb2 B.size⟩
        case measure => simp [intOf]; omega
    · have hh : l.any P = false := by have := H.out; rw [List.take_of_length_le (by omega)] at this; exact this
      have HH := Lib.hid hh
      clear hh
      go_wp2
      go_ret
      exact ⟨⟨-1, rfl, by rw [HH.out]; simp, by omega, by omega⟩, B⟩

theorem containsFunc_any (l : List Int) (v : Value) (w : World) (hv : Ints w v l) (c : FuncId) (he : ∀ args w, (callFunc c args).run Tryz.prog w = .ok (.enter c args) w) (g : Nat) (P : Int → Bool)
    (hw : ∀ (t : Int) W', t ∈ l → Below w.heap.size w W' → Calls Tryz.prog c #[.int .i64 t, .pointer (some ⟨g, 0, none⟩)] W' fun e w2 => e = .returned (.bool (P t)) ∧ Below W'.heap.size W' w2) :
    Calls Tryz.prog 62 #[v, .func (.func c) #[] #[.pointer (some ⟨g, 0, none⟩)]] w fun e w' => e = .returned (.bool (l.any P)) ∧ Below w.heap.size w w' := by
  have hcl := indexFunc_any l v w hv c he g P hw
  clear hw he
  obtain ⟨a, cp, rfl⟩ := hv.shape
  go_enter Tryz.func62, Tryz.ntmps62
  go_wp2_with (go_at_call 79; refine hcl.mono ?_; rintro e w' ⟨⟨i, rfl, hi, hi1, hi2⟩, hb⟩; have HI := Lib.hid hi; clear hi)
  go_ret
  refine ⟨ret_bool ?_, hb⟩
  cases hh : l.any P with
  | true => have := HI.out.2 hh; simpa using this
  | false =>
    have h : ¬ 0 ≤ i := fun h => by rw [HI.out.1 h] at hh; cases hh
    simpa using h

/-! minimal sets -/
def subsB (s t : Int) : Bool := t != s && idif t s == 0
def minL (l : List Int) : List Int := l.filter fun s => !(l.any (subsB s))

/-- the two ways to say it agree where no set stands twice -/
theorem allTo_iff {p : Nat → Bool} {n : Nat} : allTo p n = true ↔ ∀ k, k < n → p k = true := by
  constructor
  · intro h k hk
    cases hp : p k with
    | true => rfl
    | false => rw [allTo_false hk hp] at h; cases h
  · exact allTo_of
theorem fineB_is (l : List Int) (hn : l.Pairwise (· < ·)) (hm : ∀ x ∈ l, 0 ≤ x) (i : Nat) (hi : i < l.length) : fineB l i = !(l.any (subsB l[i])) := by
  rw [Bool.eq_iff_iff]
  unfold fineB
  rw [allTo_iff, Bool.not_eq_true', List.any_eq_false]
  have hsub : ∀ t : Int, 0 ≤ t → (idif t l[i] = 0 ↔ iand t l[i] = t) := fun t ht => by
    have h1 := hm _ (List.getElem_mem hi)
    unfold idif iand ndiff
    have := @Nat.and_le_left t.toNat l[i].toNat
    omega
  constructor
  · intro h t ht
    obtain ⟨k, hk, rfl⟩ := List.getElem_of_mem ht
    have hkk := h k hk
    rw [getD_at l k hk, getD_at l i hi] at hkk
    unfold subsB
    simp only [Bool.or_eq_true, beq_iff_eq, bne_iff_ne, ne_eq, Bool.and_eq_true, not_and] at hkk ⊢
    intro hne hid
    rcases hkk with rfl | hkk
    · exact hne rfl
    · exact hkk ((hsub _ (hm _ (List.getElem_mem hk))).1 hid)
  · intro h k hk
    rw [getD_at l k hk, getD_at l i hi]
    have := h _ (List.getElem_mem hk)
    unfold subsB at this
    simp only [Bool.or_eq_true, beq_iff_eq, bne_iff_ne, ne_eq, Bool.and_eq_true, not_and] at this ⊢
    by_cases hki : k = i
    · exact .inl hki
    · right
      intro hid
      refine this (fun e => ?_) ((hsub _ (hm _ (List.getElem_mem hk))).2 hid)
      have hp := List.pairwise_iff_getElem.1 hn
      rcases Nat.lt_or_gt_of_ne hki with h1 | h1
      · have := hp k i hk hi h1; omega
      · have := hp i k hi hk h1; omega
theorem minTo_is (l : List Int) (hn : l.Pairwise (· < ·)) (hm : ∀ x ∈ l, 0 ≤ x) : ∀ k, k ≤ l.length → minTo l k = (l.take k).filter fun s => !(l.any (subsB s)) := by
  intro k
  induction k with
  | zero => intro _; simp [minTo]
  | succ k ih =>
    intro hk
    have hlt : k < l.length := by omega
    rw [minTo, ih (by omega), List.take_succ_eq_append_getElem hlt, List.filter_append, List.filter_cons, List.filter_nil, fineB_is l hn hm k hlt, getD_at l k hlt]
    split <;> simp
theorem minTo_all (l : List Int) (hn : l.Pairwise (· < ·)) (hm : ∀ x ∈ l, 0 ≤ x) : minTo l l.length = minL l := by
  rw [minTo_is l hn hm l.length (Nat.le_refl _), List.take_length]; rfl
end Go.Proofs.YtdagcdgbdhecgaaGreat
end
section
namespace Go.Proofs.YtdagcdgbdhecgaaGreat
open Go.RowKit Go.G5

theorem chosen_mem (P : Nat → Bool) (k : Nat) : ∀ x ∈ chosen P k, 0 ≤ x ∧ x < (k : Int) := by
  intro x hx
  unfold chosen at hx
  obtain ⟨y, hy, rfl⟩ := List.mem_map.1 hx
  have := List.mem_range.1 (List.mem_filter.1 hy).1
  exact ⟨Int.natCast_nonneg _, by show (y : Int) < k; omega⟩
theorem chosen_asc (P : Nat → Bool) (k : Nat) : (chosen P k).Pairwise (· < ·) := by
  induction k with
  | zero => simp [chosen]
  | succ k ih =>
    rw [chosen_succ]
    split
    · rw [List.pairwise_append]
      refine ⟨ih, by simp, fun a ha b hb => ?_⟩
      simp only [List.mem_singleton] at hb
      have := chosen_mem P k a ha
      omega
    · exact ih
theorem chosen_fam (P : Nat → Bool) (g : Nat) (hg : g ≤ 6) : isFamB g (chosen P (2 ^ g)) = true := by
  unfold isFamB areSetsB ascB
  have h1 : inB (g : Int) 0 6 = true := inB_true.2 ⟨by omega, by omega⟩
  rw [h1, decide_eq_true (chosen_asc P _)]
  simp only [Bool.true_and, Bool.and_true, List.all_eq_true]
  intro x hx
  have := chosen_mem P _ x hx
  have e : ((2 ^ g : Nat) : Int) = (2 : Int) ^ g := by push_cast; rfl
  refine isSet_true.2 ⟨this.1, ?_⟩
  have e2 : (g : Int).toNat = g := by omega
  rw [e2, ← e]; exact this.2
theorem minL_mem {l : List Int} {x : Int} (h : x ∈ minL l) : x ∈ l := (List.mem_filter.1 h).1
theorem minL_len (l : List Int) : (minL l).length ≤ l.length := List.length_filter_le _ _

def blkAll (g : Nat) (l : List Int) : List Int := chosen (fun s => meetB l (s : Int)) (2 ^ g)
def blkN (g : Int) (l : List Int) : Int := if isFamB g l then g else 0
def blkL (g : Int) (l : List Int) : List Int := if isFamB g l then minL (blkAll g.toNat l) else []
theorem blkAll_bd (g : Nat) (hg : g ≤ 6) (l : List Int) : (∀ x ∈ blkAll g l, 0 ≤ x ∧ x < 64) ∧ (blkAll g l).length ≤ 64 := by
  have hp : (2 : Nat) ^ g ≤ 2 ^ 6 := Nat.pow_le_pow_right (by decide) hg
  refine ⟨fun x hx => ?_, ?_⟩
  · have := chosen_mem _ _ x hx
    have h : ((2 ^ g : Nat) : Int) ≤ 64 := by exact_mod_cast hp
    omega
  · have := chosen_len (fun s => meetB l (s : Int)) (2 ^ g)
    unfold blkAll; omega
theorem blkL_len (g : Int) (l : List Int) : (blkL g l).length ≤ 64 := by
  unfold blkL
  split
  · rename_i h
    obtain ⟨h0, h6, _⟩ := famOk h
    exact Nat.le_trans (minL_len _) (blkAll_bd g.toNat (by omega) l).2
  · simp
theorem blkL_bd (g : Int) (l : List Int) : ∀ x ∈ blkL g l, 0 ≤ x ∧ x < 64 := by
  unfold blkL
  split
  · rename_i h
    obtain ⟨h0, h6, _⟩ := famOk h
    exact fun x hx => (blkAll_bd g.toNat (by omega) l).1 x (minL_mem hx)
  · simp

end Go.Proofs.YtdagcdgbdhecgaaGreat
end
section
namespace Go.Proofs.YtdagcdgbdhecgaaGreat
open Go.RowKit Go.G5

def keptB (g : Int) (l m : List Int) : Bool := isFamB g l && decide (blkL g l = m)

end Go.Proofs.YtdagcdgbdhecgaaGreat
end
section
namespace Go.Proofs.YtdagcdgbdhecgaaGreat
open Go.RowKit Go.G5

def elL (s : Int) : List Int := famOf s.toNat 6
theorem elL_bd (s : Int) (n : Nat) (hn : n ≤ 6) (h1 : s.toNat < 2 ^ n) : ∀ x ∈ elL s, 0 ≤ x ∧ x < (n : Int) := by
  have h2 : s.toNat < 2 ^ 6 := Nat.lt_of_lt_of_le h1 (Nat.pow_le_pow_right (by decide) hn)
  unfold elL
  rw [famOf_same s.toNat 6 n h2 h1]
  exact famOf_bd _ _
theorem elL_bd6 (s : Int) : ∀ x ∈ elL s, 0 ≤ x ∧ x < 6 := by
  intro x hx
  unfold elL at hx
  have := famOf_bd s.toNat 6 x hx
  omega
theorem elL_len6 (s : Int) : (elL s).length ≤ 6 := by
  unfold elL famOf
  exact chosen_len _ 6
theorem elL_len : ∀ s : Nat, s < 64 → (famOf s 6).length = pop s := by decide +kernel
theorem elL_pop (s : Int) (h : s < 64) : ((elL s).length : Int) = ipop s := by
  unfold elL ipop
  rw [elL_len s.toNat (by omega)]

theorem l2List_i (s : Int) (w : World) (h0 : 0 ≤ s) (h1 : s < 64) :
    Calls Tryz.prog 66 #[.int .i64 s] w fun e w' => ∃ ad i cp, e = .returned (.slice ad i cp) ∧ OwnI 3 w.heap.size w' (.slice ad i cp) (elL s) ∧ Below w.heap.size w w' := by
  have := l2List_any w s.toNat (by omega)
  rw [show ((s.toNat : Nat) : Int) = s by omega, famOf_same s.toNat 32 6 (by omega) (by omega)] at this
  exact this

set_option maxHeartbeats 1000000 in
theorem elementsOf_i (s : Int) (w : World) (h0 : 0 ≤ s) (h1 : s < 64) :
    Calls Tryz.prog 77 #[.int .i64 s] w fun e w' => ∃ ad i cp, e = .returned (.slice ad i cp) ∧ OwnI 3 w.heap.size w' (.slice ad i cp) (elL s) ∧ Below w.heap.size w w' := by
  obtain ⟨code, rfl⟩ := Int.eq_ofNat_of_zero_le h0
  have hc : code < 64 := by omega
  have hel : elL (code : Int) = famOf code 6 := by unfold elL; rw [show ((code : Int)).toNat = code by omega]
  have HEL := Lib.hid hel
  clear hel
  go_enter Tryz.func77, Tryz.ntmps77
  go_wp2
  go_loopw [3, 4] (fun out i wr => ∃ (k : Nat) (ad : Option Addr) (nn cp : Nat), k ≤ 6 ∧ out = .slice ad nn cp ∧ i = .int .i64 k ∧ OwnI 3 w.heap.size wr (.slice ad nn cp) (famOf code k) ∧ Below w.heap.size w wr)
    (fun _ i _ => 7 - (intOf i).toNat)
  case atStart => exact ⟨0, none, 0, 0, by omega, rfl, rfl, OwnI.nil _ _ _, Below.refl _ _⟩
  case round =>
    obtain ⟨k, ad, nn, cp, hk, rfl, rfl, ho, B⟩ := hrel
    have hbit := bit_is (code : Int) k (by omega) (by omega)
    have hnb := nbit_is code k
    have hlen := chosen_len (nbit code) k
    have hdiv : ((code : Int) / 2 ^ k) = ((code / 2 ^ k : Nat) : Int) := by push_cast; rfl
    have hql : code / 2 ^ k ≤ code := Nat.div_le_self _ _
    have hz : code / 2 ^ k ≠ 0 → k + 1 ≤ 6 := by
      intro h
      by_cases h2 : k + 1 ≤ 6
      · exact h2
      · exfalso
        have : k = 6 := by omega
        rw [this, Nat.div_eq_of_lt hc] at h
        exact h rfl
    have hcs : famOf code (k + 1) = if nbit code k then famOf code k ++ [(k : Int)] else famOf code k := chosen_succ (nbit code) k
    obtain ⟨q, hq⟩ : ∃ q, q = code / 2 ^ k := ⟨_, rfl⟩
    obtain ⟨y, hy⟩ : ∃ y, y = ibit (code : Int) k := ⟨_, rfl⟩
    rw [← hq] at hdiv hz hql
    rw [← hy] at hbit hnb
    rw [hdiv] at hbit
    have HQ := Lib.hid hq
    have HO := Lib.hid ho
    have HB := Lib.hid B
    have HCS := Lib.hid hcs
    have HZ := Lib.hid hz
    clear hq hy ho B hcs hz
    by_cases h0 : q = 0
    · subst h0
      have hr : famOf code k = famOf code 6 := by
        have hlt : code < 2 ^ k := by
          rcases Nat.lt_or_ge code (2 ^ k) with h | h
          · exact h
          · have := Nat.div_pos h (Nat.two_pow_pos k)
            have := HQ.out
            omega
        exact famOf_same code k 6 hlt (by omega)
      have HR := Lib.hid hr
      clear hr
      go_wp2
      go_ret
      exact ⟨ad, nn, cp, rfl, by rw [HEL.out, ← HR.out]; exact HO.out, HB.out⟩
    · have hk1 := HZ.out h0
      have ht : ((q : Int) != 0) = true := by simp; omega
      have hrow := HO.out.lt
      cases hb : nbit code k with
      | true =>
        have hy1 : (y == 1) = true := by rw [hnb, hb]
        have HBB := Lib.hid hb
        clear hb hnb
        go_wp2_with (at_builtin; refine wpList_appendI rfl _ _ _ rfl 3 Tryz.underlying30 intElem w.heap.size _ _ (k : Int) wr.heap.size rfl rfl (cell_new wr #[.int .i64 k] 3 0 _ rfl) (HO.out.alloc _) ⟨by omega, by omega⟩ (by unfold famOf; omega) (by have := HB.out.size; simp; omega) ?_; intro v' w6 hown hgr; obtain ⟨av, nv, cv, rfl⟩ := hown.shape3)
        have B6 : Below w.heap.size w w6 := (HB.out.alloc HB.out.size (.cells #[.int .i64 k] 3)).grown hgr (by have := HB.out.size; simp; omega) (fun p hp => (hrow p hp).1)
        go_roundw
        case rel => exact ⟨k + 1, av, nv, cv, hk1, rfl, by go_num, by rw [HCS.out, HBB.out]; exact hown, B6⟩
        case measure => simp [intOf]; omega
      | false =>
        have hy1 : (y == 1) = false := by rw [hnb, hb]
        have HBB := Lib.hid hb
        clear hb hnb
        go_wp2
        go_roundw
        case rel => exact ⟨k + 1, ad, nn, cp, hk1, rfl, by go_num, by rw [HCS.out, HBB.out]; exact HO.out, HB.out⟩
        case measure => simp [intOf]; omega
end Go.Proofs.YtdagcdgbdhecgaaGreat
end
