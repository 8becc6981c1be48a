/- Families of sorted sets: the library's contracts. Families of given sets. New kept blockers. Sets that are taken from a kept blocker. Sets that are added to a kept blocker: what is computed. Families that are closed downward: what is computed. -/
import Derived.Test.YtdagcdgbdhecgaaGreatQ32
section
namespace Go.Proofs.YtdagcdgbdhecgaaGreat
open Go.RowKit Go.G5

theorem sort_any (B : Nat) (v : Value) (l : List Int) (w : World) (h : OwnI 3 B w v l) (hl : l.length ≤ 1048576) :
    Calls Tryz.prog 91 #[v] w fun e w' => e = .returned (.tuple #[]) ∧ OwnI 3 B w' v (l.mergeSort fun x y => decide (x ≤ y)) ∧ w.grownBy w' v.ownBlock := by
  have hr : ∀ x ∈ (l.mergeSort fun x y => decide (x ≤ y)), InR x := fun x hx => h.2 x (List.mem_mergeSort.1 hx)
  rcases h.cases with ⟨rfl, rfl⟩ | ⟨g, cap, rfl, hB, hg⟩
  · refine (sh_slices_Sort_int_none none 0 w).mono ?_
    rintro e w' ⟨he, rfl⟩
    exact ⟨he, by simpa using h, World.grownBy.refl _ _⟩
  · refine (sh_slices_Sort_int g 0 cap l w (h.holds rfl) hg (by omega)).mono ?_
    rintro e w' ⟨he, n, os, rfl⟩
    have := h.put (l.mergeSort fun x y => decide (x ≤ y)) (List.length_mergeSort _) hr n os
    exact ⟨he, this.1, this.2⟩
theorem compact_any (B : Nat) (v : Value) (l : List Int) (w : World) (h : OwnI 3 B w v l) (hl : l.length ≤ 1048576) :
    Calls Tryz.prog 93 #[v] w fun e w' => ∃ ad i c, e = .returned (.slice ad i c) ∧ OwnI 3 B w' (.slice ad i c) (Lib.compact l) ∧ w.grownBy w' v.ownBlock := by
  rcases h.cases with ⟨rfl, rfl⟩ | ⟨g, cap, rfl, hB, hg⟩
  · refine (sh_slices_Compact_int_empty none 0 w).mono ?_
    rintro e w' ⟨he, rfl⟩
    exact ⟨none, 0, 0, he, h, World.grownBy.refl _ _⟩
  · have hcap := h.ints.capLe
    have hcl : (Lib.compact l).length ≤ l.length := compact_len l.toArray l.length
    refine (sh_slices_Compact_int g 0 cap l w (h.holds rfl) (by omega) hcap.2.1).mono ?_
    rintro e w' ⟨he, q, rfl⟩
    have hmem : ∀ x ∈ Lib.compact l ++ List.replicate (l.length - (Lib.compact l).length) 0, InR x := by
      intro x hx
      rcases List.mem_append.1 hx with hx | hx
      · unfold Lib.compact Lib.compactUpTo at hx
        obtain ⟨j, hj, rfl⟩ := List.mem_map.1 hx
        have hj' := List.mem_range.1 (List.mem_filter.1 hj).1
        rw [getElem!_pos l.toArray j (by simpa using hj')]
        exact h.2 _ (by simp)
      · have := List.eq_of_mem_replicate hx; subst this; exact ⟨by omega, by omega⟩
    have hp := h.put (Lib.compact l ++ List.replicate (l.length - (Lib.compact l).length) 0) (by simp; omega) hmem q #[]
    rw [Go.Sort.grow_empty] at hp
    have hc := hp.1
    have hcut := OwnI.cut (n := l.length) hc (Lib.compact l).length (by simp)
    rw [List.take_left] at hcut
    exact ⟨_, _, _, he, hcut, hp.2⟩
theorem clip_any (B : Nat) (v : Value) (l : List Int) (w : World) (h : OwnI 3 B w v l) (hl : l.length ≤ 1048576) :
    Calls Tryz.prog 92 #[v] w fun e w' => ∃ ad i c, e = .returned (.slice ad i c) ∧ OwnW 3 B w' (.slice ad i c) l ∧ w = w' := by
  have hW := h.toW
  rcases h.cases with ⟨rfl, rfl⟩ | ⟨g, cap, rfl, hB, hg⟩
  · go_enter Tryz.func92, Tryz.ntmps92
    go_wp2
    go_ret
    exact ⟨none, 0, 0, rfl, hW, rfl⟩
  · have hcap := h.ints.capLe
    have hc2 := hcap.2.1
    have hc3 := hcap.2.2
    unfold maxLen at hc3
    clear hcap
    go_enter Tryz.func92, Tryz.ntmps92
    go_wp2
    go_ret
    refine ⟨some ⟨g, 0, none⟩, l.length, l.length, ?_, ?_, rfl⟩
    · rfl
    · refine ⟨hW.1, ?_⟩
      rcases hW.2 with ⟨e, _⟩ | ⟨g', cap', cur, e, hB', hgg, hlc, hcc, hm, ht⟩
      · simp at e
      · simp only [Value.slice.injEq, Option.some.injEq, Addr.mk.injEq, and_true] at e
        obtain ⟨rfl, _, rfl⟩ := e
        exact .inr ⟨g, l.length, cur, rfl, hB', hgg, Nat.le_refl _, by omega, by omega, ht⟩
end Go.Proofs.YtdagcdgbdhecgaaGreat
end
section
namespace Go.Proofs.YtdagcdgbdhecgaaGreat
open Go.RowKit Go.G5

set_option maxHeartbeats 1000000 in
set_option maxRecDepth 100000 in
theorem gather_any (n : Int) (v : Value) (l : List Int) (w : World) (hv : Ints w v l) (hl : l.length ≤ 1048576) :
    Calls Tryz.prog 78 #[.int .i64 n, v] w fun e w' => ∃ ad i c, e = .returned (.agg #[.int .i64 n, .slice ad i c]) ∧ OwnW 3 w.heap.size w' (.slice ad i c) (gatherL l) ∧ Below w.heap.size w w' := by
  obtain ⟨a, c, rfl⟩ := hv.shape
  have hml : (l.mergeSort fun x y => decide (x ≤ y)).length ≤ 1048576 := by rw [List.length_mergeSort]; exact hl
  have hgl := gatherL_len l
  go_enter Tryz.func78, Tryz.ntmps78
  go_wp2_with fail
  refine (clone_any _ l _ (hv.alloc _) hl).mono ?_
  rintro e w1 ⟨p1, i1, q1, rfl, o1, hb1⟩
  have K0 := Blk.new w 49 #[.int .i64 0, .slice none 0 0]
  have K1 := K0.keep hb1
  have B1 : Below w.heap.size w w1 := (bl1 _ _).after hb1 (by simp)
  have o1' := o1.mono (B' := w.heap.size + 1) (by simp)
  have r1 := o1'.lt
  clear K0 o1 hb1
  go_wp2_with fail
  refine (sort_any _ _ l _ o1' hl).mono ?_
  rintro e w2 ⟨rfl, o2, hg2⟩
  have K2 := K1.grow hg2 (by intro hk; have := (r1 _ hk).1; omega)
  have B2 := B1.grown hg2 B1.size (fun k hk => by have := (r1 k hk).1; omega)
  clear hg2 K1 o1'
  go_wp2_with fail
  refine (compact_any _ _ _ _ o2 hml).mono ?_
  rintro e w3 ⟨p3, i3, q3, rfl, o3, hg3⟩
  have K3 := K2.grow hg3 (by intro hk; have := (r1 _ hk).1; omega)
  have B3 := B2.grown hg3 B2.size (fun k hk => by have := (r1 k hk).1; omega)
  clear hg3 K2 o2
  go_wp2_with fail
  refine (clip_any _ _ _ _ o3 (by have e : Lib.compact (l.mergeSort fun x y => decide (x ≤ y)) = gatherL l := rfl; rw [e]; omega)).mono ?_
  rintro e w4 ⟨p4, i4, q4, rfl, o4, rfl⟩
  have G3 := K3.cell
  have F3 := K3.frozen
  have z3 := K3.lt
  go_wp2
  refine post_named ?_
  intro Wf hWf
  have Kf : Blk Wf w.heap.size 49 #[.int .i64 n, .slice p4 i4 q4] := by
    rw [hWf]
    have := (K3.set 0 (.int .i64 n)).set 1 (.slice p4 i4 q4)
    simpa using this
  have Bf : Below w.heap.size w Wf := by rw [hWf]; exact Below.setCell (Below.setCell B3 (by first | omega | (simp; done) | (simp; omega)) _) (by first | omega | (simp; done) | (simp; omega)) _
  have of : OwnW 3 w.heap.size Wf (.slice p4 i4 q4) (gatherL l) := by rw [hWf]; exact ((o4.setBelow (by first | omega | (simp; done) | (simp; omega)) _).setBelow (by first | omega | (simp; done) | (simp; omega)) _).mono (by first | omega | (simp; done) | (simp; omega))
  have Gf := Kf.cell
  clear hWf G3 F3
  exact bodyPost_ret (v := .agg #[.int .i64 n, .slice p4 i4 q4]) (by simp [results, Tryz.results78, go_sem, Gf]) rfl ⟨_, _, _, rfl, of, Bf⟩
end Go.Proofs.YtdagcdgbdhecgaaGreat
end
section
namespace Go.Proofs.YtdagcdgbdhecgaaGreat
open Go.RowKit Go.G5

def nkL (g : Int) (l : List Int) : List Int := if isFamB g l then l else []
theorem nkL_len (g : Int) (l : List Int) (h : l.length ≤ 1048576) : (nkL g l).length ≤ 1048576 := by
  unfold nkL; split
  · exact h
  · simp

end Go.Proofs.YtdagcdgbdhecgaaGreat
end
section
namespace Go.Proofs.YtdagcdgbdhecgaaGreat
open Go.RowKit Go.G5

def remOk (g : Int) (l m : List Int) (s : Int) : Bool := keptB g l m && has l s
def remP (s x : Int) : Bool := x == s
def remN (g : Int) (l m : List Int) (s : Int) : Int := if remOk g l m s then blkN g (keepL (remP s) l) else 0
def remK (g : Int) (l m : List Int) (s : Int) : List Int := if remOk g l m s then nkL g (keepL (remP s) l) else []
def remL (g : Int) (l m : List Int) (s : Int) : List Int := if remOk g l m s then blkL g (keepL (remP s) l) else []
def remF (g : Int) (l m : List Int) (s : Int) : Bool := remOk g l m s && isFamB g (keepL (remP s) l)
theorem remK_len (g : Int) (l m : List Int) (s : Int) (h : l.length ≤ 1048576) : (remK g l m s).length ≤ 1048576 := by
  unfold remK; split
  · exact nkL_len g _ (Nat.le_trans (keepL_len _ _) h)
  · simp
theorem remL_len (g : Int) (l m : List Int) (s : Int) : (remL g l m s).length ≤ 64 := by
  unfold remL; split
  · exact blkL_len g _
  · simp
theorem keptB_fam {g : Int} {l m : List Int} (h : keptB g l m = true) : isFamB g l = true := by unfold keptB at h; exact (Bool.and_eq_true_iff.1 h).1
end Go.Proofs.YtdagcdgbdhecgaaGreat
end
section
namespace Go.Proofs.YtdagcdgbdhecgaaGreat
open Go.RowKit Go.G5

def addOk (g : Int) (l m : List Int) (s : Int) : Bool := (keptB g l m && isSet g.toNat s) && !has l s
def addEl (t e : Int) : Int := ior t (2 ^ e.toNat)
def addOne (s t : Int) : List Int := if iand s t != 0 then [t] else (elL s).map (addEl t)
def addList (m : List Int) (s : Int) : List Int := m.flatMap (addOne s)
def addN (g : Int) (l m : List Int) (s : Int) : Int := if addOk g l m s then g else 0
def addK (g : Int) (l m : List Int) (s : Int) : List Int := if addOk g l m s then gatherL (l ++ [s]) else []
def addL (g : Int) (l m : List Int) (s : Int) : List Int := if addOk g l m s then minL (gatherL (addList m s)) else []
theorem pow2_bd (e : Int) (h : 0 ≤ e ∧ e < 6) : 0 < (2 : Int) ^ e.toNat ∧ (2 : Int) ^ e.toNat < 64 := by
  rcases (show e = 0 ∨ e = 1 ∨ e = 2 ∨ e = 3 ∨ e = 4 ∨ e = 5 by omega) with rfl | rfl | rfl | rfl | rfl | rfl <;> decide
theorem addEl_bd (t e : Int) (ht : 0 ≤ t ∧ t < 64) (he : 0 ≤ e ∧ e < 6) : 0 ≤ addEl t e ∧ addEl t e < 64 := by
  have := pow2_bd e he
  exact ior_bd t _ 6 ht.1 (by omega) (by omega) (by omega)
theorem addOne_bd (s t : Int) (ht : 0 ≤ t ∧ t < 64) : ∀ x ∈ addOne s t, 0 ≤ x ∧ x < 64 := by
  intro x hx
  unfold addOne at hx
  split at hx
  · rw [List.mem_singleton] at hx; rw [hx]; exact ht
  · obtain ⟨e, he, rfl⟩ := List.mem_map.1 hx
    exact addEl_bd t e ht (elL_bd6 s e he)
theorem addOne_len (s t : Int) : (addOne s t).length ≤ 6 := by
  unfold addOne
  split
  · simp
  · rw [List.length_map]; exact elL_len6 s
theorem addList_bd (m : List Int) (s : Int) (hm : ∀ x ∈ m, 0 ≤ x ∧ x < 64) : ∀ x ∈ addList m s, 0 ≤ x ∧ x < 64 := by
  intro x hx
  unfold addList at hx
  obtain ⟨t, ht, hx⟩ := List.mem_flatMap.1 hx
  exact addOne_bd s t (hm t ht) x hx
theorem addList_len (m : List Int) (s : Int) : (addList m s).length ≤ 6 * m.length := by
  unfold addList
  induction m with
  | nil => simp
  | cons t m ih =>
    rw [List.flatMap_cons, List.length_append, List.length_cons]
    have := addOne_len s t
    omega
theorem addList_take (m : List Int) (s : Int) (k : Nat) (h : k < m.length) : addList (m.take (k + 1)) s = addList (m.take k) s ++ addOne s m[k] := by
  unfold addList
  rw [List.take_succ_eq_append_getElem h, List.flatMap_append, List.flatMap_cons, List.flatMap_nil, List.append_nil]
/-- a strictly ascending list of numbers below n has at most n -/
theorem asc_len_aux : ∀ (l : List Int) (lo n : Int), l.Pairwise (· < ·) → (∀ x ∈ l, lo ≤ x ∧ x < n) → lo ≤ n → (l.length : Int) ≤ n - lo := by
  intro l
  induction l with
  | nil => intro lo n _ _ h; simp; omega
  | cons x l ih =>
    intro lo n hp hb hln
    have hx := hb x (by simp)
    rw [List.pairwise_cons] at hp
    have := ih (x + 1) n hp.2 (fun y hy => ⟨by have := hp.1 y hy; omega, (hb y (by simp [hy])).2⟩) (by omega)
    rw [List.length_cons]
    omega
theorem asc_len (l : List Int) (n : Nat) (hp : l.Pairwise (· < ·)) (hb : ∀ x ∈ l, 0 ≤ x ∧ x < (n : Int)) : l.length ≤ n := by
  have := asc_len_aux l 0 n hp hb (by omega)
  omega
theorem gather64 (l : List Int) (h : ∀ x ∈ l, 0 ≤ x ∧ x < 64) : (∀ x ∈ gatherL l, 0 ≤ x ∧ x < 64) ∧ (gatherL l).length ≤ 64 := by
  have h1 : ∀ x ∈ gatherL l, 0 ≤ x ∧ x < 64 := fun x hx => h x ((gatherL_mem l x).1 hx)
  exact ⟨h1, asc_len _ 64 (gatherL_asc l) (fun x hx => h1 x hx)⟩
theorem addL_len (g : Int) (l m : List Int) (s : Int) (_ : m.length ≤ 1048576) : (addL g l m s).length ≤ 64 := by
  unfold addL
  split
  · rename_i h
    unfold addOk at h
    have hk := (Bool.and_eq_true_iff.1 (Bool.and_eq_true_iff.1 h).1).1
    unfold keptB at hk
    have hmm := of_decide_eq_true (Bool.and_eq_true_iff.1 hk).2
    exact Nat.le_trans (minL_len _) (gather64 _ (addList_bd m s (hmm ▸ blkL_bd g l))).2
  · simp
theorem addK_len (g : Int) (l m : List Int) (s : Int) (_ : l.length ≤ 1048576) : (addK g l m s).length ≤ 1048576 := by
  unfold addK
  split
  · rename_i h
    unfold addOk at h
    have hk := (Bool.and_eq_true_iff.1 (Bool.and_eq_true_iff.1 h).1).1
    obtain ⟨h0, h6, hm, ha⟩ := famOk (keptB_fam hk)
    have := pow_le64 h0 h6
    have hl := asc_len l 64 ha (fun x hx => by have := hm x hx; omega)
    have := gatherL_len (l ++ [s]); simp at this; omega
  · simp
theorem keptB_m {g : Int} {l m : List Int} (h : keptB g l m = true) : isFamB g l = true ∧ (∀ x ∈ m, 0 ≤ x ∧ x < 64) ∧ m.length ≤ 64 := by
  unfold keptB at h
  have hmm := of_decide_eq_true (Bool.and_eq_true_iff.1 h).2
  exact ⟨(Bool.and_eq_true_iff.1 h).1, hmm ▸ blkL_bd g l, hmm ▸ blkL_len g l⟩
end Go.Proofs.YtdagcdgbdhecgaaGreat
end
section
namespace Go.Proofs.YtdagcdgbdhecgaaGreat
open Go.RowKit Go.G5

def lessEl (s e : Int) : Int := idif s (2 ^ e.toNat)
def shadOne (s : Int) : List Int := (elL s).map (lessEl s)
def shadL (l : List Int) : List Int := l.flatMap shadOne
def shN (g : Int) (l : List Int) : Int := if isFamB g l then g else 0
def shL (g : Int) (l : List Int) : List Int := if isFamB g l then gatherL (shadL l) else []
/-- without one element s is in l -/
def downOne (l : List Int) (s : Int) : Bool := (elL s).all fun e => has l (s - 2 ^ e.toNat)
def downB (g : Int) (l : List Int) : Bool := isFamB g l && l.all (downOne l)
theorem lessEl_sub : ∀ s : Nat, s < 64 → ∀ e ∈ elL (s : Int), lessEl s e = (s : Int) - 2 ^ e.toNat := by decide +kernel
theorem lessEl_is (s e : Int) (h0 : 0 ≤ s) (h1 : s < 64) (he : e ∈ elL s) : lessEl s e = s - 2 ^ e.toNat := by
  obtain ⟨n, rfl⟩ := Int.eq_ofNat_of_zero_le h0
  exact lessEl_sub n (by omega) e he
theorem lessEl_bd (s e : Int) (hs : 0 ≤ s ∧ s < 64) : 0 ≤ lessEl s e ∧ lessEl s e < 64 := idif_bd s _ 64 hs.1 hs.2
theorem shadOne_len (s : Int) : (shadOne s).length ≤ 6 := by unfold shadOne; rw [List.length_map]; exact elL_len6 s
theorem shadL_len (l : List Int) : (shadL l).length ≤ 6 * l.length := by
  unfold shadL
  induction l with
  | nil => simp
  | cons t m ih =>
    rw [List.flatMap_cons, List.length_append, List.length_cons]
    have := shadOne_len t
    omega
theorem shadL_take (l : List Int) (k : Nat) (h : k < l.length) : shadL (l.take (k + 1)) = shadL (l.take k) ++ shadOne l[k] := by
  unfold shadL
  rw [List.take_succ_eq_append_getElem h, List.flatMap_append, List.flatMap_cons, List.flatMap_nil, List.append_nil]
theorem fam_len64 {g : Int} {l : List Int} (h : isFamB g l = true) : l.length ≤ 64 := by
  obtain ⟨h0, h6, hm, ha⟩ := famOk h
  have := pow_le64 h0 h6
  exact asc_len l 64 ha (fun x hx => by have := hm x hx; omega)
theorem shL_len (g : Int) (l : List Int) : (shL g l).length ≤ 384 := by
  unfold shL
  split
  · rename_i h
    have := fam_len64 h
    have := shadL_len l
    have := gatherL_len (shadL l)
    omega
  · simp
/-- the two ways to say it -/
theorem down_is (g : Int) (l : List Int) : (isFamB g l && !((shL g l).any fun s => !has l s)) = downB g l := by
  unfold downB
  cases hf : isFamB g l with
  | false => rfl
  | true =>
    have hL : shL g l = gatherL (shadL l) := by unfold shL; rw [hf]; rfl
    rw [hL, Bool.true_and, Bool.true_and, Bool.eq_iff_iff, Bool.not_eq_true', List.any_eq_false, List.all_eq_true]
    have h64 := famOk64 hf
    constructor
    · intro h s hs
      unfold downOne
      rw [List.all_eq_true]
      intro e he
      obtain ⟨k, hk, rfl⟩ := List.getElem_of_mem hs
      have hb := h64.2.2 k hk
      have hmem : lessEl l[k] e ∈ gatherL (shadL l) := by
        rw [gatherL_mem]
        unfold shadL
        exact List.mem_flatMap.2 ⟨_, hs, List.mem_map.2 ⟨e, he, rfl⟩⟩
      have := h _ hmem
      rw [lessEl_is _ e hb.1 hb.2 he] at this
      simpa using this
    · intro h x hx
      rw [gatherL_mem] at hx
      unfold shadL at hx
      obtain ⟨s, hs, hx⟩ := List.mem_flatMap.1 hx
      obtain ⟨e, he, rfl⟩ := List.mem_map.1 hx
      obtain ⟨k, hk, rfl⟩ := List.getElem_of_mem hs
      have hb := h64.2.2 k hk
      have := h _ hs
      unfold downOne at this
      rw [List.all_eq_true] at this
      have := this e he
      rw [lessEl_is _ e hb.1 hb.2 he]
      simpa using this
end Go.Proofs.YtdagcdgbdhecgaaGreat
end
