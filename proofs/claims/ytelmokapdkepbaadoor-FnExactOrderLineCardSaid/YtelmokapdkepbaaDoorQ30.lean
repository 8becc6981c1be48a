/- Levels of families: the first program. Sorted lists without repetition: the plain law. slices.Reverse: the library's contract at this program (laid by the kit's commands), and what it does to an own row. -/
import Derived.Test.YtelmokapdkepbaaDoorQ29
import Derived.Lib.SlicesCompact
import Derived.Shelf.Slices.Reverse
section
namespace Go.Proofs.YtelmokapdkepbaaDoor
open Go.RowKit Go.G5

set_option maxHeartbeats 2000000 in
set_option maxRecDepth 100000 in
theorem levI_c (w : World) (g : Int) (v : Value) (l : List Int) (hv : Ints w v l) :
    Calls Tryd.prog 24 #[.agg #[.int .i64 g, v]] w fun e w' => ∃ ad cp, e = .returned (.tuple #[.slice ad (levels g l).length cp, .bool (isFamB g l)]) ∧ OwnLL 3 22 w.heap.size w' (.slice ad (levels g l).length cp) (levels g l) ∧ Below w.heap.size w w' := by
  have hv0 := hv
  obtain ⟨a, c, rfl⟩ := hv.shape
  obtain ⟨T, hT⟩ : ∃ T, T = levels g l := ⟨_, rfl⟩
  rw [← hT]
  have HT0 := Lib.hid hT
  clear hT
  go_enter Tryd.func24, Tryd.ntmps24
  go_wp2_with fail
  refine calls_named ?_
  intro V hV
  have B : Below w.heap.size w V := by rw [hV]; exact bl1 _ _
  have K : Blk V w.heap.size 27 #[.int .i64 g, .slice a l.length c] := by rw [hV]; exact Blk.new _ _ _
  have o0 : OwnLL 3 22 w.heap.size V (.slice none 0 0) [] := OwnLL.nil _ _ _ _
  clear hV
  refine (isFamI_any g l _ V (hv.below B (Nat.le_refl _))).mono ?_
  rintro e w1 ⟨rfl, b1⟩
  have o0 := o0.keep b1
  have K := K.keep b1
  have B := B.after b1 B.size
  have G := K.cell
  have z := K.lt
  cases hf : isFamB g l with
  | false =>
    have hx : T = [] := by rw [HT0.out]; unfold levels; rw [hf]; rfl
    subst hx
    have HF := Lib.hid hf
    clear hf
    go_wp2
    go_ret2
    exact ⟨_, _, by rw [HF.out]; rfl, o0, B⟩
  | true =>
    have hx : T = levL l := by rw [HT0.out]; unfold levels; rw [hf]; rfl
    have h1 := famOk hf
    have h64 : ∀ s ∈ l, 0 ≤ s ∧ s < 64 := fun s hs => by obtain ⟨k, hk, rfl⟩ := List.getElem_of_mem hs; exact (famOk64 hf).2.2 k hk
    have hln := fam64 hf
    have hasc := h1.2.2.2
    have hstart : T = [] ++ levF l.length l := hx
    have hTl : T.length ≤ 64 := by rw [hx]; exact Nat.le_trans (levF_len _ _) hln
    have HF := Lib.hid hf
    have HST := Lib.hid hstart
    have HASC := Lib.hid hasc
    have H64 := Lib.hid h64
    have hvw := hv0.below B (Nat.le_refl _)
    clear hx h1 hf hstart hasc h64
    go_wp2_with fail
    go_loopw [4, 5] (fun ov rv wr => ∃ (done : List (List Int)) (k : Nat) (rest : List Int) (oa : Option Addr) (oc : Nat) (ra : Option Addr) (rc : Nat), T = done ++ levF k rest ∧ rest.length ≤ k ∧ k ≤ 64 ∧ (rest.Pairwise (· < ·) ∧ ∀ s ∈ rest, 0 ≤ s ∧ s < 64) ∧ ov = .slice oa done.length oc ∧ rv = .slice ra rest.length rc ∧ Ints wr (.slice ra rest.length rc) rest ∧ OwnLL 3 22 w.heap.size wr (.slice oa done.length oc) done ∧ Below w.heap.size w wr) (fun _ rv _ => lenOf rv)
    case atStart => exact ⟨[], l.length, l, _, _, _, _, HST.out, Nat.le_refl _, hln, ⟨HASC.out, H64.out⟩, rfl, rfl, hvw, o0, B⟩
    case round =>
      obtain ⟨done, k, rest, oa, oc, ra, rc, hT, hrk, hk64, ⟨ha, hm⟩, rfl, rfl, hr, ho, Bo⟩ := hrel
      obtain ⟨wo, rfl⟩ : ∃ z : World, z = wr := ⟨_, rfl⟩
      clear o0
      by_cases hpos : 0 < rest.length
      · have hne : rest ≠ [] := fun e => by rw [e] at hpos; simp at hpos
        have hpos2 : (0 : Int) < (rest.length : Int) := by omega
        have hlt := remL_lt hne ha hm
        obtain ⟨k', rfl⟩ : ∃ k', k = k' + 1 := ⟨k - 1, by omega⟩
        have hT2 : T = (done ++ [minL rest]) ++ levF k' (remLv rest) := by rw [hT, levF_succ _ _ hne, List.append_assoc]; rfl
        have ha2 := remL_asc ha
        have hm2 : ∀ s ∈ remLv rest, 0 ≤ s ∧ s < 64 := fun s hs => hm s (remL_mem hs)
        have hdl : done.length ≤ 64 := by have := congrArg List.length hT; rw [List.length_append] at this; omega
        have hmc := minimalOf_any rest _ wo hr hm (by omega)
        have hrl : remLv rest = (rest.take rest.length).filter (fun s => !has (minL rest) s) := by rw [List.take_length]; rfl
        obtain ⟨M, hM⟩ : ∃ M, M = minL rest := ⟨_, rfl⟩
        obtain ⟨R, hR⟩ : ∃ R, R = remLv rest := ⟨_, rfl⟩
        rw [← hM] at hmc hT2 hrl
        rw [← hR] at hlt hT2 ha2 hm2 hrl
        have HT2 := Lib.hid hT2
        have HRL := Lib.hid hrl
        have HMM := Lib.hid (And.intro ha2 hm2)
        have HMC := Lib.hid hmc
        have HO := Lib.hid ho
        have HR := Lib.hid hr
        have HMR := Lib.hid hm
        clear hT hT2 hrl ha2 hm2 hmc ho hM hR ha hm hne
        go_wp2_with fail
        refine HMC.out.mono ?_
        rintro e w2 ⟨p2, i2, q2, rfl, o2, b2⟩
        have hi2 : i2 = M.length := o2.ints.capLe.1
        subst hi2
        have hr2 := HR.out.keep b2
        obtain ⟨_, rb, roff, _, hve, _, hix, hc, hb⟩ := hr2.view Tryd.prog 22 3 Tryd.underlying22 intElem
        injection hve with x1 _ x3
        subst x1 x3
        have HC := Lib.hid hc
        have HIX := Lib.hid hix
        have HO2 := Lib.hid o2
        clear hc hix o2
        go_wp2_with fail
        go_loopw [7, 22] (fun lv i wr => ∃ (j : Nat) (ad : Option Addr) (nn cp : Nat), j ≤ rest.length ∧ i = .int .i64 j ∧ lv = .slice ad nn cp ∧ OwnI 3 w2.heap.size wr (.slice ad nn cp) ((rest.take j).filter (fun s => !has M s)) ∧ Below w2.heap.size w2 wr) (fun _ i _ => rest.length - (intOf i).toNat)
        case atStart => exact ⟨0, _, _, _, Nat.zero_le _, rfl, rfl, OwnI.nil _ _ _, Below.refl _ _⟩
        case round =>
          obtain ⟨j, ad, nn, cp, hj, rfl, rfl, hw, Bi⟩ := hrel
          obtain ⟨wi, rfl⟩ : ∃ z : World, z = wr := ⟨_, rfl⟩
          have HW := Lib.hid hw
          have zi := Bi.size
          clear hw
          by_cases hjl : j < rest.length
          · have hjl2 : (j : Int) < (rest.length : Int) := by omega
            have ck := cells_below HC.out hb Bi (Nat.le_refl _) j hjl
            have ik := fun W => HIX.out W j hjl
            have hst := rest_take (fun s => !has M s) rest j hjl
            have hxm := HMR.out rest[j] (List.getElem_mem hjl)
            have hlw : ((rest.take j).filter (fun s => !has M s)).length ≤ 64 := by
              have h1 := List.length_filter_le (fun s => !has M s) (rest.take j)
              have h2 := List.length_take_le j rest
              omega
            obtain ⟨x, hx⟩ : ∃ x, x = rest[j] := ⟨_, rfl⟩
            rw [← hx] at ck hst hxm
            have hct := slContains_any M _ x wi (HO2.out.ints.keep Bi)
            obtain ⟨q, hq⟩ : ∃ q, q = has M x := ⟨_, rfl⟩
            rw [← hq] at hct
            have hst2 : (rest.take (j + 1)).filter (fun s => !has M s) = (rest.take j).filter (fun s => !has M s) ++ (if !q then [x] else []) := by rw [hst, hq]
            have HCT := Lib.hid hct
            clear hst hct hx hq
            cases q with
            | true =>
              rw [if_neg (by simp), List.append_nil] at hst2
              have HS2 := Lib.hid hst2
              clear hst2
              go_wp2_with (go_at_call 49; refine HCT.out.mono ?_; rintro e w' ⟨rfl, rfl⟩)
              go_roundw
              case rel => exact ⟨j + 1, ad, nn, cp, by omega, by go_num, rfl, by rw [HS2.out]; exact HW.out, Bi⟩
              case measure => simp [intOf]; omega
            | false =>
              rw [if_pos (by simp)] at hst2
              have HS2 := Lib.hid hst2
              clear hst2
              go_wp2_with (first
                | (go_at_call 49; refine HCT.out.mono ?_; rintro e w' ⟨rfl, rfl⟩)
                | (at_builtin; refine wpList_appendI rfl _ _ _ rfl 3 Tryd.underlying22 intElem w2.heap.size _ _ x wi.heap.size rfl rfl (cell_new wi #[.int .i64 x] 3 0 _ rfl) (HW.out.alloc _) ⟨by omega, by omega⟩ (by omega) (by first | omega | (simp; done) | (simp; omega)) ?_; intro v' w6 hown hgr; obtain ⟨av, nv, cv, rfl⟩ := hown.shape3))
              have B6 : Below w2.heap.size w2 w6 := (Bi.alloc Bi.size (.cells #[.int .i64 x] 3)).grown hgr (by simp; omega) (fun q hq => (HW.out.lt q hq).1)
              go_roundw
              case rel => exact ⟨j + 1, av, nv, cv, by omega, by go_num, rfl, by rw [HS2.out]; exact hown, B6⟩
              case measure => simp [intOf]; omega
          · have hjl2 : ¬ (j : Int) < (rest.length : Int) := by omega
            have hje : j = rest.length := by omega
            subst hje
            have hw := HW.out
            rw [← HRL.out] at hw
            have hnn : nn = R.length := hw.ints.capLe.1
            subst hnn
            have HWW := Lib.hid hw
            have b2i := b2.after Bi b2.size
            have Bw := Bo.after b2i Bo.size
            have HOL := Lib.hid (HO.out.keep b2i)
            have HMO := Lib.hid ((HO2.out.keep Bi).mono Bo.size)
            clear hw
            go_wp2_with (at_builtin; refine wpList_appendL rfl _ _ _ rfl 3 22 noMeet Tryd.underlying35 sliceElem w.heap.size _ done (.slice p2 M.length q2) M wi.heap.size rfl rfl (cell_new wi #[.slice p2 M.length q2] 22 0 _ rfl) ((HOL.out).alloc _) (HMO.out.alloc _) (by omega) (by have := Bw.size; simp; omega) ?_; intro v7 w7 o7 g7)
            have rO := HOL.out.lt
            obtain ⟨vs7, row7⟩ := (HOL.out.alloc (.cells #[.slice p2 M.length q2] 22)).row
            have hw7 := (HWW.out.alloc (.cells #[.slice p2 M.length q2] 22)).growL row7 noMeet g7
            have B7 : Below w.heap.size w w7 := (Bw.alloc Bw.size (.cells #[.slice p2 M.length q2] 22)).grown g7 (by have := Bw.size; simp; omega) (fun q hq => (rO q hq).1)
            obtain ⟨oa7, oc7, rfl, _⟩ := o7.len
            have hl7 : (done ++ [M]).length = done.length + 1 := by simp
            go_wp2_with fail
            go_roundw
            case rel => exact ⟨done ++ [M], k', R, oa7, oc7, ad, cp, HT2.out, by omega, by omega, HMM.out, rfl, rfl, hw7.ints, o7, B7⟩
            case measure => simp [lenOf]; omega
      · have hne : rest = [] := by cases rest with
          | nil => rfl
          | cons x r => simp at hpos
        subst hne
        have hpos2 : ¬ (0 : Int) < (0 : Int) := by omega
        rw [levF_nil, List.append_nil] at hT
        subst hT
        go_wp2
        go_ret2
        exact ⟨_, _, by rw [HF.out]; rfl, ho, Bo⟩
end Go.Proofs.YtelmokapdkepbaaDoor
end
section
namespace Go.Proofs.YtelmokapdkepbaaDoor
open Go.RowKit Go.G5

/-! the plain law of sort and compact -/
def gatherL (l : List Int) : List Int := Lib.compact (l.mergeSort fun x y => decide (x ≤ y))
theorem compact_asc (d : Array Int) (mono : ∀ i j, i ≤ j → j < d.size → d[i]! ≤ d[j]!) : ∀ m, m ≤ d.size →
    (Lib.compactUpTo d m).Pairwise (· < ·) ∧ (∀ x ∈ Lib.compactUpTo d m, ∃ j, j < m ∧ x = d[j]!) ∧ (∀ j, j < m → d[j]! ∈ Lib.compactUpTo d m) := by
  intro m
  induction m with
  | zero => intro _; simp [Lib.compactUpTo]
  | succ m ih =>
    intro hm
    obtain ⟨h1, h2, h3⟩ := ih (by omega)
    rw [Lib.compactUpTo_succ]
    by_cases hk : Lib.keeps d m = true
    · rw [if_pos hk]
      have hlt : ∀ x ∈ Lib.compactUpTo d m, x < d[m]! := by
        intro x hx
        obtain ⟨j, hj, rfl⟩ := h2 x hx
        have e1 := mono j (m - 1) (by omega) (by omega)
        have e2 := mono (m - 1) m (by omega) (by omega)
        unfold Lib.keeps at hk
        have hk' := of_decide_eq_true hk
        rcases hk' with h0 | hne
        · omega
        · omega
      refine ⟨?_, ?_, ?_⟩
      · rw [List.pairwise_append]
        exact ⟨h1, by simp, fun a ha b hb => by simp only [List.mem_singleton] at hb; rw [hb]; exact hlt a ha⟩
      · intro x hx
        rcases List.mem_append.1 hx with hx | hx
        · obtain ⟨j, hj, e⟩ := h2 x hx
          exact ⟨j, by omega, e⟩
        · simp only [List.mem_singleton] at hx
          exact ⟨m, by omega, hx⟩
      · intro j hj
        by_cases hjm : j < m
        · exact List.mem_append.2 (.inl (h3 j hjm))
        · have : j = m := by omega
          subst this
          exact List.mem_append.2 (.inr (by simp))
    · rw [if_neg hk, List.append_nil]
      refine ⟨h1, fun x hx => ?_, fun j hj => ?_⟩
      · obtain ⟨j, hj, e⟩ := h2 x hx
        exact ⟨j, by omega, e⟩
      · by_cases hjm : j < m
        · exact h3 j hjm
        · have : j = m := by omega
          subst this
          unfold Lib.keeps at hk
          have hk' : ¬ (j = 0 ∨ d[j]! ≠ d[j - 1]!) := fun h => hk (decide_eq_true h)
          have h0 : j ≠ 0 := fun h => hk' (.inl h)
          have he : d[j]! = d[j - 1]! := Classical.byContradiction fun h => hk' (.inr h)
          rw [he]
          exact h3 (j - 1) (by omega)
theorem sort_mono (l : List Int) : ∀ i j, i ≤ j → j < (l.mergeSort fun x y => decide (x ≤ y)).toArray.size → (l.mergeSort fun x y => decide (x ≤ y)).toArray[i]! ≤ (l.mergeSort fun x y => decide (x ≤ y)).toArray[j]! := by
  have hp : (l.mergeSort fun x y => decide (x ≤ y)).Pairwise (fun a b => decide (a ≤ b) = true) :=
    List.pairwise_mergeSort (le := fun x y : Int => decide (x ≤ y)) (fun a b c h1 h2 => decide_eq_true (Int.le_trans (of_decide_eq_true h1) (of_decide_eq_true h2))) (fun a b => by
      rcases Int.le_total a b with h | h
      · show (decide (a ≤ b) || decide (b ≤ a)) = true
        rw [decide_eq_true h]; rfl
      · show (decide (a ≤ b) || decide (b ≤ a)) = true
        rw [decide_eq_true h]; simp) l
  generalize l.mergeSort (fun x y => decide (x ≤ y)) = s at *
  intro i j hij hj
  rw [getElem!_pos s.toArray i (by omega), getElem!_pos s.toArray j hj]
  simp only [List.getElem_toArray]
  rcases Nat.lt_or_ge i j with h | h
  · exact of_decide_eq_true (List.pairwise_iff_getElem.1 hp i j (by simpa using (show i < s.toArray.size by omega)) (by simpa using hj) h)
  · have : i = j := by omega
    subst this
    exact Int.le_refl _
theorem gatherL_asc (l : List Int) : (gatherL l).Pairwise (· < ·) := by
  have := (compact_asc _ (sort_mono l) _ (Nat.le_refl _)).1
  simpa [gatherL, Lib.compact] using this
theorem gatherL_mem (l : List Int) (x : Int) : x ∈ gatherL l ↔ x ∈ l := by
  have h := compact_asc _ (sort_mono l) _ (Nat.le_refl _)
  have hm : ∀ y, y ∈ (l.mergeSort fun x y => decide (x ≤ y)) ↔ y ∈ l := fun y => List.mem_mergeSort
  have e : gatherL l = Lib.compactUpTo (l.mergeSort fun x y => decide (x ≤ y)).toArray (l.mergeSort fun x y => decide (x ≤ y)).toArray.size := by simp [gatherL, Lib.compact]
  rw [e, ← hm]
  generalize l.mergeSort (fun x y => decide (x ≤ y)) = s at *
  constructor
  · intro hx
    obtain ⟨j, hj, rfl⟩ := h.2.1 x hx
    rw [getElem!_pos s.toArray j hj]
    simp
  · intro hx
    obtain ⟨j, hj, rfl⟩ := List.getElem_of_mem hx
    have := h.2.2 j (by simpa using hj)
    rw [getElem!_pos s.toArray j (by simpa using hj)] at this
    simpa using this
/-- strictly ascending lists of the same numbers are the same -/
theorem asc_ext : ∀ (a b : List Int), a.Pairwise (· < ·) → b.Pairwise (· < ·) → (∀ x, x ∈ a ↔ x ∈ b) → a = b := by
  intro a
  induction a with
  | nil =>
    intro b _ _ h
    cases b with
    | nil => rfl
    | cons y b => have := (h y).2 (by simp); simp at this
  | cons x a ih =>
    intro b ha hb h
    cases b with
    | nil => have := (h x).1 (by simp); simp at this
    | cons y b =>
      obtain ⟨ha1, ha2⟩ := List.pairwise_cons.1 ha
      obtain ⟨hb1, hb2⟩ := List.pairwise_cons.1 hb
      have hxy : x = y := by
        have h1 := (h x).1 (by simp)
        have h2 := (h y).2 (by simp)
        rcases List.mem_cons.1 h1 with h1 | h1
        · exact h1
        · rcases List.mem_cons.1 h2 with h2 | h2
          · exact h2.symm
          · have := hb1 x h1; have := ha1 y h2; omega
      subst hxy
      rw [ih b ha2 hb2 fun z => ?_]
      constructor
      · intro hz
        rcases List.mem_cons.1 ((h z).1 (List.mem_cons.2 (.inr hz))) with e | e
        · subst e; have := ha1 z hz; omega
        · exact e
      · intro hz
        rcases List.mem_cons.1 ((h z).2 (List.mem_cons.2 (.inr hz))) with e | e
        · subst e; have := hb1 z hz; omega
        · exact e
theorem gatherL_id (l : List Int) (h : l.Pairwise (· < ·)) : gatherL l = l := asc_ext _ _ (gatherL_asc l) h (gatherL_mem l)
theorem compact_len (d : Array Int) (m : Nat) : (Lib.compactUpTo d m).length ≤ m := by
  unfold Lib.compactUpTo
  rw [List.length_map]
  have := List.length_filter_le (Lib.keeps d) (List.range m)
  simpa using this
theorem gatherL_len (l : List Int) : (gatherL l).length ≤ l.length := by
  have := compact_len (l.mergeSort fun x y => decide (x ≤ y)).toArray (l.mergeSort fun x y => decide (x ≤ y)).length
  unfold gatherL Lib.compact
  simpa using this

/-! the library's functions in these words -/
end Go.Proofs.YtelmokapdkepbaaDoor
end
section
namespace Go.Proofs.YtelmokapdkepbaaDoor
open Go.Shelf
set_option maxRecDepth 100000
def sh_lays112_ren : Go.Shelf.Ren := ⟨fun | 112 => 47 | n => n, fun | 28 => 22 | 3 => 3 | 4 => 4 | 0 => 0 | n => n, fun | n => n⟩
theorem sh_lays112 : Go.Proofs.Lays.n112 Tryd.prog sh_lays112_ren := {
  mixed := by kernel_rfl
  f112 := Tryd.func47.trans (congrArg some (by kernel_rfl))
  t0 := Tryd.underlying0
  a0 := Tryd.isAgg0
  z0 := Tryd.sizeOf0
  v0 := Tryd.zeroValue0
  t3 := Tryd.underlying3
  a3 := Tryd.isAgg3
  z3 := Tryd.sizeOf3
  v3 := Tryd.zeroValue3
  t4 := Tryd.underlying4
  a4 := Tryd.isAgg4
  z4 := Tryd.sizeOf4
  v4 := Tryd.zeroValue4
  t28 := Tryd.underlying22
  a28 := Tryd.isAgg22
  z28 := Tryd.sizeOf22
  v28 := Tryd.zeroValue22 }
open Go.RowKit Go.Lib Go.Sort in
theorem sh_slices_Reverse_int (blk off cap : Nat) (zs : List Int) (w : World) (hH : Holds (Value.int .i64) w blk off zs.toArray) (hsz : zs.length ≤ 9223372036854775807) :
    Calls Tryd.prog 47 #[.slice (some ⟨blk, off, none⟩) zs.length cap] w fun e w' => e = .returned (.tuple #[]) ∧ ∃ n, w' = putRow (Value.int .i64) (Sort.ahead w n) blk off zs.reverse.toArray := Any.slices_Reverse_int sh_lays112 blk off cap zs w hH hsz
open Go.RowKit Go.Lib Go.Sort in
theorem sh_slices_Reverse_int_empty (a : Option Addr) (cap : Nat) (w : World) :
    Calls Tryd.prog 47 #[.slice a 0 cap] w fun e w' => e = .returned (.tuple #[]) ∧ w' = w := Any.slices_Reverse_int_empty sh_lays112 a cap w
open Go.RowKit Go.G5 in
theorem reverse_any (B : Nat) (v : Value) (l : List Int) (w : World) (h : OwnI 3 B w v l) (hl : l.length ≤ 1048576) :
    Calls Tryd.prog 47 #[v] w fun e w' => e = .returned (.tuple #[]) ∧ OwnI 3 B w' v l.reverse ∧ w.grownBy w' v.ownBlock := by
  have hr : ∀ x ∈ l.reverse, InR x := fun x hx => h.2 x (List.mem_reverse.1 hx)
  rcases h.cases with ⟨rfl, rfl⟩ | ⟨g, cap, rfl, hB, hg⟩
  · refine (sh_slices_Reverse_int_empty none 0 w).mono ?_
    rintro e w' ⟨he, rfl⟩
    exact ⟨he, h, World.grownBy.refl _ _⟩
  · refine (sh_slices_Reverse_int g 0 cap l w (h.holds rfl) (by omega)).mono ?_
    rintro e w' ⟨he, n, rfl⟩
    have hp := h.put l.reverse List.length_reverse hr n #[]
    rw [Go.Sort.grow_empty] at hp
    exact ⟨he, hp.1, hp.2⟩
end Go.Proofs.YtelmokapdkepbaaDoor
end
