/- Sets that contain no other one; blockers. Blockers. The smallest transversal: both programs. -/
import Derived.Test.YtelmokapdkepbaaDoorQ19
import Derived.Shelf.Abstract
import Derived.Deep.RegionHeld3
section
namespace Go.Proofs.YtelmokapdkepbaaDoor
open Go.RowKit Go.G5

/-! a function value that is asked of the numbers of a slice -/
set_option maxHeartbeats 1000000 in
theorem indexFunc_any (l : List Int) (v : Value) (w : World) (hv : Ints w v l) (c : FuncId) (he : ∀ args w, (callFunc c args).run Tryd.prog w = .ok (.enter c args) w) (g : Nat) (P : Int → Bool)
    (hw : ∀ (t : Int) W', t ∈ l → Below w.heap.size w W' → Calls Tryd.prog c #[.int .i64 t, .pointer (some ⟨g, 0, none⟩)] W' fun e w2 => e = .returned (.bool (P t)) ∧ Below W'.heap.size W' w2) :
    Calls Tryd.prog 79 #[v, .func (.func c) #[] #[.pointer (some ⟨g, 0, none⟩)]] w fun e w' => (∃ i : Int, e = .returned (.int .i64 i) ∧ (0 ≤ i ↔ l.any P = true) ∧ -1 ≤ i ∧ i ≤ 9223372036854775807) ∧ Below w.heap.size w w' := by
  obtain ⟨a, b, off, cp, rfl, hlen, hix, hc, hb⟩ := hv.view Tryd.prog 22 3 Tryd.underlying22 intElem
  have HW := Lib.hid hw
  clear hw
  go_enter Tryd.func79, Tryd.ntmps79
  go_wp2_with fail
  go_loopw [8] (fun i wr => ∃ k : Nat, k ≤ l.length ∧ i = .int .i64 k ∧ (l.take k).any P = false ∧ Below w.heap.size w wr) (fun i _ => l.length - (intOf i).toNat)
  case atStart => exact ⟨0, Nat.zero_le _, rfl, by simp, Below.refl _ _⟩
  case round =>
    obtain ⟨k, hk, rfl, hall, B⟩ := hrel
    have H := Lib.hid hall
    clear hall
    by_cases hlt : k < l.length
    · have hck := cells_below hc hb B (Nat.le_refl _) k hlt
      have hcl := HW.out l[k] wr (List.getElem_mem hlt) B
      have htk : (l.take (k + 1)).any P = ((l.take k).any P || P l[k]) := by rw [List.take_succ_eq_append_getElem hlt, List.any_append]; simp
      have HTK := Lib.hid htk
      clear htk
      cases hP : P l[k] with
      | true =>
        have hh : l.any P = true := List.any_eq_true.2 ⟨_, List.getElem_mem hlt, hP⟩
        have HH := Lib.hid hh
        rw [hP] at hcl
        clear hh hP
        go_wp2_with (go_at_fn c; refine hcl.mono ?_; rintro e w2 ⟨rfl, hb2⟩)
        go_ret
        exact ⟨⟨k, rfl, by rw [HH.out]; simp, by omega, by omega⟩, B.after hb2 B.size⟩
      | false =>
        have HP := Lib.hid hP
        rw [hP] at hcl
        clear hP
        go_wp2_with (go_at_fn c; refine hcl.mono ?_; rintro e w2 ⟨rfl, hb2⟩)
        go_roundw
        case rel => exact ⟨k + 1, by omega, by go_num, by rw [HTK.out, H.out, HP.out]; rfl, B.after hb2 B.size⟩
        case measure => simp [intOf]; omega
    · have hh : l.any P = false := by have := H.out; rw [List.take_of_length_le (by omega)] at this; exact this
      have HH := Lib.hid hh
      clear hh
      go_wp2
      go_ret
      exact ⟨⟨-1, rfl, by rw [HH.out]; simp, by omega, by omega⟩, B⟩

theorem containsFunc_any (l : List Int) (v : Value) (w : World) (hv : Ints w v l) (c : FuncId) (he : ∀ args w, (callFunc c args).run Tryd.prog w = .ok (.enter c args) w) (g : Nat) (P : Int → Bool)
    (hw : ∀ (t : Int) W', t ∈ l → Below w.heap.size w W' → Calls Tryd.prog c #[.int .i64 t, .pointer (some ⟨g, 0, none⟩)] W' fun e w2 => e = .returned (.bool (P t)) ∧ Below W'.heap.size W' w2) :
    Calls Tryd.prog 67 #[v, .func (.func c) #[] #[.pointer (some ⟨g, 0, none⟩)]] w fun e w' => e = .returned (.bool (l.any P)) ∧ Below w.heap.size w w' := by
  have hcl := indexFunc_any l v w hv c he g P hw
  clear hw he
  obtain ⟨a, cp, rfl⟩ := hv.shape
  go_enter Tryd.func67, Tryd.ntmps67
  go_wp2_with (go_at_call 79; refine hcl.mono ?_; rintro e w' ⟨⟨i, rfl, hi, hi1, hi2⟩, hb⟩; have HI := Lib.hid hi; clear hi)
  go_ret
  refine ⟨ret_bool ?_, hb⟩
  cases hh : l.any P with
  | true => have := HI.out.2 hh; simpa using this
  | false =>
    have h : ¬ 0 ≤ i := fun h => by rw [HI.out.1 h] at hh; cases hh
    simpa using h

/-! minimal sets -/
def subsB (s t : Int) : Bool := t != s && idif t s == 0
def minL (l : List Int) : List Int := l.filter fun s => !(l.any (subsB s))

theorem minClosure (w : World) (g : Nat) (t s : Int) (d : w.cell? ⟨g, 0, none⟩ = some (.int .i64 s)) (ht : 0 ≤ t ∧ t < 64) (hs : 0 ≤ s ∧ s < 64) :
    Calls Tryd.prog 68 #[.int .i64 t, .pointer (some ⟨g, 0, none⟩)] w fun e w' => e = .returned (.bool (subsB s t)) ∧ Below w.heap.size w w' := by
  have hN := idif_is ht.1 ht.2 hs.1 hs.2
  cases h : (t != s) with
  | false =>
    have hx : subsB s t = false := by unfold subsB; rw [h]; rfl
    have HX := Lib.hid hx
    clear hx
    go_enter Tryd.func68, Tryd.ntmps68
    go_wp2
    go_ret
    exact ⟨ret_bool HX.out.symm, Below.refl _ _⟩
  | true =>
    have hx : subsB s t = (idif t s == 0) := by unfold subsB; rw [h]; rfl
    have HX := Lib.hid hx
    clear hx
    go_enter Tryd.func68, Tryd.ntmps68
    go_wp2
    go_ret
    exact ⟨ret_bool HX.out.symm, Below.refl _ _⟩
theorem minClosure_enters : ∀ args w, (callFunc 68 args).run Tryd.prog w = .ok (.enter 68 args) w := enters_of Tryd.func68 (by kernel_rfl) rfl

set_option maxHeartbeats 1000000 in
set_option maxRecDepth 100000 in
theorem minimalOf_any (l : List Int) (v : Value) (w : World) (hv : Ints w v l) (hm : ∀ x ∈ l, 0 ≤ x ∧ x < 64) (hl : l.length ≤ 1048576) :
    Calls Tryd.prog 48 #[v] w fun e w' => ∃ ad i cp, e = .returned (.slice ad i cp) ∧ OwnI 3 w.heap.size w' (.slice ad i cp) (minL l) ∧ Below w.heap.size w w' := by
  obtain ⟨a, b, off, c, rfl, hlen, hix, hc, hb⟩ := hv.view Tryd.prog 22 3 Tryd.underlying22 intElem
  have HM := Lib.hid hm
  clear hm
  obtain ⟨F, hF⟩ : ∃ F : Int → Bool, F = fun s => !(l.any (subsB s)) := ⟨_, rfl⟩
  have hmin : minL l = l.filter F := by rw [hF]; rfl
  rw [hmin]
  have HF := Lib.hid hF
  clear hmin hF
  go_enter Tryd.func48, Tryd.ntmps48
  go_wp2_with fail
  go_loopw [3, 9] (fun out i wr => ∃ (k : Nat) (ad : Option Addr) (nn cp : Nat), k ≤ l.length ∧ out = .slice ad nn cp ∧ i = .int .i64 k ∧ OwnI 3 w.heap.size wr (.slice ad nn cp) ((l.take k).filter F) ∧ Below w.heap.size w wr)
    (fun _ i _ => l.length - (intOf i).toNat)
  case atStart => exact ⟨0, none, 0, 0, Nat.zero_le _, rfl, rfl, OwnI.nil _ _ _, Below.refl _ _⟩
  case round =>
    obtain ⟨k, ad, nn, cp, hk, rfl, rfl, ho, B⟩ := hrel
    have HO := Lib.hid ho
    clear ho
    by_cases hlt : k < l.length
    · have hck := cells_below hc hb B (Nat.le_refl _) k hlt
      have hlk := HM.out _ (List.getElem_mem hlt)
      have htk : (l.take (k + 1)).filter F = (l.take k).filter F ++ (if F l[k] = true then [l[k]] else []) := by
        rw [List.take_succ_eq_append_getElem hlt, List.filter_append, List.filter_cons, List.filter_nil]
      have hFk : F l[k] = !(l.any (subsB l[k])) := by rw [HF.out]
      have hfl : ((l.take k).filter F).length ≤ 1048576 := Nat.le_trans (List.length_filter_le _ _) (by simp; omega)
      obtain ⟨s, hs⟩ : ∃ s, s = l[k] := ⟨_, rfl⟩
      rw [← hs] at hck hlk htk hFk
      have hcf : ∀ W, Ints W (.slice a l.length c) l → W.cell? ⟨wr.heap.size, 0, none⟩ = some (.int .i64 s) → Calls Tryd.prog 67 #[.slice a l.length c, .func (.func 68) #[] #[.pointer (some ⟨wr.heap.size, 0, none⟩)]] W fun e w' => e = .returned (.bool (l.any (subsB s))) ∧ Below W.heap.size W w' :=
        fun W hW hd => containsFunc_any l _ W hW 68 minClosure_enters wr.heap.size (subsB s) (fun t W' ht hB => minClosure W' wr.heap.size t s (keep hB hd) (HM.out t ht) hlk)
      have HCF := Lib.hid hcf
      have HTK := Lib.hid htk
      have hs0 := hlk.1
      have hs1 := hlk.2
      clear hs htk hcf hlk
      cases hany : l.any (subsB s) with
      | true =>
        have hf : F s = false := by rw [hFk, hany]; rfl
        have HFS := Lib.hid hf
        have HA := Lib.hid hany
        clear hf hany hFk
        go_wp2_with (go_at_call 67; refine (HCF.out _ (hv.below (B.alloc B.size _) (Nat.le_refl _)) (cell_new _ _ _ _ _ rfl)).mono ?_; rintro e w4 ⟨rfl, hb4⟩; rw [HA.out])
        have b4 : Below wr.heap.size wr w4 := (bl1 wr (.cells #[.int .i64 s] 3)).after hb4 (by simp)
        go_roundw
        case rel => exact ⟨k + 1, ad, nn, cp, by omega, rfl, by go_num, by rw [HTK.out, HFS.out]; simpa using HO.out.keep b4, B.after b4 B.size⟩
        case measure => simp [intOf]; omega
      | false =>
        have hf : F s = true := by rw [hFk, hany]; rfl
        have HFS := Lib.hid hf
        have HA := Lib.hid hany
        clear hf hany hFk
        go_wp2_with (first
          | (go_at_call 67; refine (HCF.out _ (hv.below (B.alloc B.size _) (Nat.le_refl _)) (cell_new _ _ _ _ _ rfl)).mono ?_; rintro e w4 ⟨rfl, hb4⟩; rw [HA.out]; have d4 := keep hb4 (cell_new wr #[.int .i64 s] 3 0 _ rfl); have b4 : Below wr.heap.size wr w4 := (bl1 wr (.cells #[.int .i64 s] 3)).after hb4 (by simp); have o4 := HO.out.keep b4; have B4 := B.after b4 B.size; have z4 := B4.size)
          | (at_builtin; refine wpList_appendI rfl _ _ _ rfl 3 Tryd.underlying22 intElem w.heap.size _ _ s w4.heap.size rfl rfl (by simp) (o4.alloc _) ⟨by omega, by omega⟩ (by omega) (by simp; omega) ?_; intro v' w6 hown hgr; obtain ⟨av, nv, cv, rfl⟩ := hown.shape3))
        have r4 := o4.lt
        have B6 : Below w.heap.size w w6 := (B4.alloc B4.size (.cells #[.int .i64 s] 3)).grown hgr (by simp; omega) (fun q hq => (r4 q hq).1)
        go_roundw
        case rel => exact ⟨k + 1, av, nv, cv, by omega, rfl, by go_num, by rw [HTK.out, HFS.out]; exact hown, B6⟩
        case measure => simp [intOf]; omega
    · have hkl : (l.take k).filter F = l.filter F := by rw [List.take_of_length_le (by omega)]
      have HK := Lib.hid hkl
      clear hkl
      go_wp2
      go_ret
      exact ⟨ad, nn, cp, rfl, by rw [← HK.out]; exact HO.out, B⟩

/-- the two ways to say it agree where no set stands twice -/
theorem allTo_iff {p : Nat → Bool} {n : Nat} : allTo p n = true ↔ ∀ k, k < n → p k = true := by
  constructor
  · intro h k hk
    cases hp : p k with
    | true => rfl
    | false => rw [allTo_false hk hp] at h; cases h
  · exact allTo_of
theorem fineB_is (l : List Int) (hn : l.Pairwise (· < ·)) (hm : ∀ x ∈ l, 0 ≤ x) (i : Nat) (hi : i < l.length) : fineB l i = !(l.any (subsB l[i])) := by
  rw [Bool.eq_iff_iff]
  unfold fineB
  rw [allTo_iff, Bool.not_eq_true', List.any_eq_false]
  have hsub : ∀ t : Int, 0 ≤ t → (idif t l[i] = 0 ↔ iand t l[i] = t) := fun t ht => by
    have h1 := hm _ (List.getElem_mem hi)
    unfold idif iand ndiff
    have := @Nat.and_le_left t.toNat l[i].toNat
    omega
  constructor
  · intro h t ht
    obtain ⟨k, hk, rfl⟩ := List.getElem_of_mem ht
    have hkk := h k hk
    rw [getD_at l k hk, getD_at l i hi] at hkk
    unfold subsB
    simp only [Bool.or_eq_true, beq_iff_eq, bne_iff_ne, ne_eq, Bool.and_eq_true, not_and] at hkk ⊢
    intro hne hid
    rcases hkk with rfl | hkk
    · exact hne rfl
    · exact hkk ((hsub _ (hm _ (List.getElem_mem hk))).1 hid)
  · intro h k hk
    rw [getD_at l k hk, getD_at l i hi]
    have := h _ (List.getElem_mem hk)
    unfold subsB at this
    simp only [Bool.or_eq_true, beq_iff_eq, bne_iff_ne, ne_eq, Bool.and_eq_true, not_and] at this ⊢
    by_cases hki : k = i
    · exact .inl hki
    · right
      intro hid
      refine this (fun e => ?_) ((hsub _ (hm _ (List.getElem_mem hk))).2 hid)
      have hp := List.pairwise_iff_getElem.1 hn
      rcases Nat.lt_or_gt_of_ne hki with h1 | h1
      · have := hp k i hk hi h1; omega
      · have := hp i k hi hk h1; omega
theorem minTo_is (l : List Int) (hn : l.Pairwise (· < ·)) (hm : ∀ x ∈ l, 0 ≤ x) : ∀ k, k ≤ l.length → minTo l k = (l.take k).filter fun s => !(l.any (subsB s)) := by
  intro k
  induction k with
  | zero => intro _; simp [minTo]
  | succ k ih =>
    intro hk
    have hlt : k < l.length := by omega
    rw [minTo, ih (by omega), List.take_succ_eq_append_getElem hlt, List.filter_append, List.filter_cons, List.filter_nil, fineB_is l hn hm k hlt, getD_at l k hlt]
    split <;> simp
theorem minTo_all (l : List Int) (hn : l.Pairwise (· < ·)) (hm : ∀ x ∈ l, 0 ≤ x) : minTo l l.length = minL l := by
  rw [minTo_is l hn hm l.length (Nat.le_refl _), List.take_length]; rfl
end Go.Proofs.YtelmokapdkepbaaDoor
end
section
namespace Go.Proofs.YtelmokapdkepbaaDoor
open Go.RowKit Go.G5

theorem chosen_mem (P : Nat → Bool) (k : Nat) : ∀ x ∈ chosen P k, 0 ≤ x ∧ x < (k : Int) := by
  intro x hx
  unfold chosen at hx
  obtain ⟨y, hy, rfl⟩ := List.mem_map.1 hx
  have := List.mem_range.1 (List.mem_filter.1 hy).1
  exact ⟨Int.natCast_nonneg _, by show (y : Int) < k; omega⟩
theorem chosen_asc (P : Nat → Bool) (k : Nat) : (chosen P k).Pairwise (· < ·) := by
  induction k with
  | zero => simp [chosen]
  | succ k ih =>
    rw [chosen_succ]
    split
    · rw [List.pairwise_append]
      refine ⟨ih, by simp, fun a ha b hb => ?_⟩
      simp only [List.mem_singleton] at hb
      have := chosen_mem P k a ha
      omega
    · exact ih
theorem chosen_fam (P : Nat → Bool) (g : Nat) (hg : g ≤ 6) : isFamB g (chosen P (2 ^ g)) = true := by
  unfold isFamB areSetsB ascB
  have h1 : inB (g : Int) 0 6 = true := inB_true.2 ⟨by omega, by omega⟩
  rw [h1, decide_eq_true (chosen_asc P _)]
  simp only [Bool.true_and, Bool.and_true, List.all_eq_true]
  intro x hx
  have := chosen_mem P _ x hx
  have e : ((2 ^ g : Nat) : Int) = (2 : Int) ^ g := by push_cast; rfl
  refine isSet_true.2 ⟨this.1, ?_⟩
  have e2 : (g : Int).toNat = g := by omega
  rw [e2, ← e]; exact this.2
theorem minL_mem {l : List Int} {x : Int} (h : x ∈ minL l) : x ∈ l := (List.mem_filter.1 h).1
theorem minL_len (l : List Int) : (minL l).length ≤ l.length := List.length_filter_le _ _

def blkAll (g : Nat) (l : List Int) : List Int := chosen (fun s => meetB l (s : Int)) (2 ^ g)
def blkN (g : Int) (l : List Int) : Int := if isFamB g l then g else 0
def blkL (g : Int) (l : List Int) : List Int := if isFamB g l then minL (blkAll g.toNat l) else []
theorem blkAll_bd (g : Nat) (hg : g ≤ 6) (l : List Int) : (∀ x ∈ blkAll g l, 0 ≤ x ∧ x < 64) ∧ (blkAll g l).length ≤ 64 := by
  have hp : (2 : Nat) ^ g ≤ 2 ^ 6 := Nat.pow_le_pow_right (by decide) hg
  refine ⟨fun x hx => ?_, ?_⟩
  · have := chosen_mem _ _ x hx
    have h : ((2 ^ g : Nat) : Int) ≤ 64 := by exact_mod_cast hp
    omega
  · have := chosen_len (fun s => meetB l (s : Int)) (2 ^ g)
    unfold blkAll; omega
theorem blkL_len (g : Int) (l : List Int) : (blkL g l).length ≤ 64 := by
  unfold blkL
  split
  · rename_i h
    obtain ⟨h0, h6, _⟩ := famOk h
    exact Nat.le_trans (minL_len _) (blkAll_bd g.toNat (by omega) l).2
  · simp
theorem blkL_bd (g : Int) (l : List Int) : ∀ x ∈ blkL g l, 0 ≤ x ∧ x < 64 := by
  unfold blkL
  split
  · rename_i h
    obtain ⟨h0, h6, _⟩ := famOk h
    exact fun x hx => (blkAll_bd g.toNat (by omega) l).1 x (minL_mem hx)
  · simp

end Go.Proofs.YtelmokapdkepbaaDoor
end
section
namespace Go.Proofs.YtelmokapdkepbaaDoor
open Go.RowKit Go.G5

/-- the first of the smallest sets of a list, from best on -/
def lessL : List Int → Int → Int
  | [], b => b
  | s :: r, b => lessL r (if pop s.toNat < pop b.toNat then s else b)
def tnOk (g : Int) (l : List Int) : Bool := isFamB g l && !((blkL g l).length == 0)
def tnS (g : Int) (l : List Int) : Int := if tnOk g l then lessL (blkL g l) ((blkL g l).getD 0 0) else 0
def tnN (g : Int) (l : List Int) : Int := if tnOk g l then ((pop (tnS g l).toNat : Nat) : Int) else 0
theorem lessL_mem (S : List Int) : ∀ (r : List Int) (b : Int), (∀ x ∈ r, x ∈ S) → b ∈ S → lessL r b ∈ S
  | [], _, _, h => h
  | s :: r, b, h1, h2 => by
    rw [lessL]
    refine lessL_mem S r _ (fun x hx => h1 x (List.mem_cons_of_mem _ hx)) ?_
    split
    · exact h1 s (by simp)
    · exact h2
theorem lessL_at (l : List Int) (j : Nat) (h : j < l.length) (b : Int) : lessL (l.drop j) b = lessL (l.drop (j + 1)) (if pop (l[j]).toNat < pop b.toNat then l[j] else b) := by
  rw [List.drop_eq_getElem_cons h, lessL]
theorem lessL_first (l : List Int) (h : 0 < l.length) : lessL (l.drop 1) l[0] = lessL l l[0] := by
  have := lessL_at l 0 h l[0]
  rw [List.drop_zero] at this
  rw [this]
  simp
theorem tnS_bd (g : Int) (l : List Int) : 0 ≤ tnS g l ∧ tnS g l < 64 := by
  unfold tnS
  split
  · rename_i h
    unfold tnOk at h
    simp only [Bool.and_eq_true, Bool.not_eq_true', beq_eq_false_iff_ne] at h
    have hl : 0 < (blkL g l).length := by have := h.2; omega
    refine blkL_bd g l _ (lessL_mem (blkL g l) _ _ (fun x hx => hx) ?_)
    rw [List.getD_eq_getElem?_getD, List.getElem?_eq_getElem hl]
    simp
  · omega
theorem tnN_bd (g : Int) (l : List Int) : 0 ≤ tnN g l ∧ tnN g l ≤ 8 := by
  unfold tnN
  have h := tnS_bd g l
  split
  · have := pop_le (tnS g l).toNat (by omega)
    omega
  · omega
theorem size_i (x : Int) (w : World) (h0 : 0 ≤ x) (h1 : x < 64) : Calls Tryd.prog 83 #[.int .i64 x] w fun e w' => e = .returned (.int .i64 ((pop x.toNat : Nat) : Int)) ∧ w = w' := by
  obtain ⟨n, rfl⟩ := Int.eq_ofNat_of_zero_le h0
  exact sizeOf_any n w (by omega)
theorem size_s (x : Int) (w : World) (h0 : 0 ≤ x) (h1 : x < 64) : Calls Tryd.prog 78 #[.int .i64 x] w fun e w' => e = .returned (.int .i64 ((pop x.toNat : Nat) : Int)) ∧ w = w' := by
  obtain ⟨n, rfl⟩ := Int.eq_ofNat_of_zero_le h0
  exact l2Size_any n w (by omega)
end Go.Proofs.YtelmokapdkepbaaDoor
end
