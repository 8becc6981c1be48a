/- Functions as texts: both programs. What is read is what is written, and what is written is read. Numbers that are put into an ascending list. Blockers. Kept blockers: which are right. slices.DeleteFunc with a function that looks through one pointer. New kept blockers. Sets that are taken from a kept blocker. Sets that are added to a kept blocker: what is computed. Traces of families, shattered sets, growth: what is computed. A family has at most as many sets as it shatters. Sets that are added to and removed from a kept blocker: the laws of the plain lists. The blocker of the blocker has the minimal sets. The law of texts: what it asks, in plain Lean. -/
import Derived.Test.YtipejodijbjpcaaGreatDoorQ33
import Derived.Deep.RegionHeld3
import Derived.Lib.SliceRun
section
namespace Go.Proofs.YtipejodijbjpcaaGreatDoor
open Go.RowKit Go.G5

theorem fun_len {n : Int} {l : List Int} (h : isFunB n l = true) : l.length ≤ 32 := by
  obtain ⟨_, _, _, _, h32, _⟩ := fun_nat h
  exact h32
def funTx (n : Int) (l : List Int) : ByteArray := if isFunB n l = true then joinB comma (l.map itoaB) else ByteArray.empty
set_option maxHeartbeats 1000000 in
set_option maxRecDepth 100000 in
theorem fmtFunI_any (n : Int) (l : List Int) (v : Value) (w : World) (hv : Ints w v l) (hp : Pow w) :
    Calls Tryz.prog 14 #[.agg #[.int .i64 n, v]] w fun e w' => e = .returned (.string (funTx n l)) ∧ Below w.heap.size w w' := by
  have hv0 := hv
  obtain ⟨a, c, rfl⟩ := hv.shape
  have K0 := Blk.new w 32 #[.int .i64 n, .slice a l.length c]
  go_enter Tryz.func14, Tryz.ntmps14
  go_wp2_with fail
  refine (isFunI_any n l _ _ (hv0.alloc _)).mono ?_
  rintro e w1 ⟨rfl, hb1⟩
  have K1 := K0.keep hb1
  have B1 : Below w.heap.size w w1 := (bl1 _ _).after hb1 (by simp)
  have G1 := K1.cell
  cases hf : isFunB n l with
  | false =>
    have hx : funTx n l = ByteArray.empty := by unfold funTx; rw [hf]; rfl
    have HX := Lib.hid hx
    clear hx hf
    go_wp2
    go_ret
    exact ⟨ret_str HX.out.symm, B1⟩
  | true =>
    have hx : funTx n l = joinB comma (l.map itoaB) := by unfold funTx; rw [if_pos hf]
    have h32 := fun_len hf
    have HJ := Lib.hid (joinIntsI_any l _ w1 (hv0.below B1 (Nat.le_refl _)) (by omega) (hp.keep B1))
    have HX := Lib.hid hx
    clear hx hf h32
    go_wp2_with fail
    refine HJ.out.mono ?_
    rintro e w2 ⟨rfl, hb2⟩
    go_wp2
    go_ret
    exact ⟨ret_str HX.out.symm, B1.after hb2 B1.size⟩
end Go.Proofs.YtipejodijbjpcaaGreatDoor
end
section
namespace Go.Proofs.YtipejodijbjpcaaGreatDoor
open Go.RowKit Go.G5

/-- what is cut is joined again -/
theorem join_cutA (c : UInt8) : ∀ (l part : List UInt8), Lib.join (cutA c part l) [c] = part ++ l := by
  intro l
  induction l with
  | nil => intro part; rw [cutA, Lib.join_one]; simp
  | cons b l ih =>
    intro part
    rw [cutA]
    by_cases hb : b = c
    · rw [if_pos hb, Lib.join_cons]
      have h := ih []
      obtain ⟨x, r, hx⟩ : ∃ x r, cutA c [] l = x :: r := by
        cases hc : cutA c [] l with
        | nil => exact absurd hc (cutA_ne c [] l)
        | cons x r => exact ⟨x, r, rfl⟩
      rw [hx] at h ⊢
      rw [Lib.join_cons] at h
      subst hb
      simp only [Lib.joinTail, List.map_cons, List.flatten_cons] at h ⊢
      simp only [List.nil_append] at h
      rw [← h]; simp
    · rw [if_neg hb, ih]; simp
theorem join_cutB (c : UInt8) (s : ByteArray) : joinB ⟨#[c]⟩ (cutB c s) = s := by
  refine ba_ext ?_
  show Lib.join ((cutB c s).map (·.data.toList)) [c] = s.data.toList
  have e : (cutB c s).map (·.data.toList) = cutA c [] s.data.toList := by
    unfold cutB
    rw [List.map_map]
    exact (List.map_congr_left fun x _ => rfl).trans (List.map_id _)
  rw [e, join_cutA]; simp
/-- a set that is read is written as it was -/
theorem set_back {n : Int} {s : ByteArray} (h : psB n s = true) : setTx n (psV n s) = s := by
  have hh := h
  unfold psB at h
  simp only [Bool.and_eq_true, Bool.or_eq_true, decide_eq_true_eq] at h
  obtain ⟨hn, h⟩ := h
  by_cases hd : s = dashB
  · have e : psV n s = 0 := by unfold psV; rw [if_pos hh, if_pos hd]
    rw [e, hd]
    obtain ⟨h0, h6⟩ := inB_true.1 hn
    have hp0 := (two_pow n.toNat n.toNat (Nat.le_refl _)).2
    have : setOk n 0 = true := by
      unfold setOk; rw [hn]
      exact isSet_true.2 ⟨Int.le_refl _, hp0⟩
    unfold setTx; rw [if_pos this, if_pos rfl]
  · rcases h with h | h
    · exact absurd h hd
    · rw [psV_yes hd hh]; exact h.2
/-- a family that is read is written as it was -/
theorem fam_back {n : Int} {s : ByteArray} (h : pmB n s = true) : famTx n (pmL n s) = s := by
  have hf := pm_fam h
  unfold famTx
  rw [if_pos hf]
  by_cases hd : s = noneB
  · have e : pmL n s = [] := by unfold pmL; rw [if_pos h, if_pos hd]
    rw [e, if_pos rfl, hd]
  · have e := (pm_yes hd h).2
    have ha : (cutB 124 s).all (psB n) = true := by
      cases hx : (cutB 124 s).all (psB n) with
      | true => rfl
      | false => rw [pm_bad hd hx] at h; cases h
    have hne : (cutB 124 s).map (psV n) ≠ [] := fun q => cutB_ne 124 s (List.map_eq_nil_iff.1 q)
    rw [e, if_neg hne, List.map_map]
    have e2 : (cutB 124 s).map (setTx n ∘ psV n) = cutB 124 s :=
      (List.map_congr_left fun x hx => set_back (List.all_eq_true.1 ha x hx)).trans (List.map_id _)
    rw [e2]
    exact join_cutB 124 s
/-- a function that is read is written as it was -/
theorem fun_back {s : ByteArray} (h : fdB s = true) : funTx (fdN s) (fdL s) = s := by
  have hf := fd_fun h
  unfold funTx
  rw [if_pos hf]
  have e := (fd_yes h).2
  have ha : (cutB 44 s).all pB = true := by
    cases hx : (cutB 44 s).all pB with
    | true => rfl
    | false => rw [fd_bad hx] at h; cases h
  rw [e, List.map_map]
  have e2 : (cutB 44 s).map (itoaB ∘ pN) = cutB 44 s :=
    (List.map_congr_left fun x hx => (pB_is (List.all_eq_true.1 ha x hx)).1).trans (List.map_id _)
  rw [e2]
  exact join_cutB 44 s
end Go.Proofs.YtipejodijbjpcaaGreatDoor
end
section
namespace Go.Proofs.YtipejodijbjpcaaGreatDoor
open Go.RowKit Go.G5

end Go.Proofs.YtipejodijbjpcaaGreatDoor
end
section
namespace Go.Proofs.YtipejodijbjpcaaGreatDoor
open Go.RowKit Go.G5

set_option maxHeartbeats 1000000 in
set_option maxRecDepth 100000 in
theorem minSets_yes (g : Int) (l : List Int) (v : Value) (w : World) (hv : Ints w v l) (hl : l.length ≤ 1048576) (hf : isFamB g l = true) :
    Calls Tryz.prog 34 #[.agg #[.int .i64 g, v]] w fun e w' => ∃ ad i cp, e = .returned (.tuple #[.agg #[.int .i64 g, .slice ad i cp], .bool true]) ∧ OwnI 3 w.heap.size w' (.slice ad i cp) (minL l) ∧ Below w.heap.size w w' := by
  obtain ⟨a, c, rfl⟩ := hv.shape
  have hm := fam_mem hf
  have HM := Lib.hid hm
  have HF := Lib.hid hf
  clear hm hf
  go_enter Tryz.func34, Tryz.ntmps34
  go_wp2_with fail
  refine calls_named ?_
  intro V hV
  have B : Below w.heap.size w V := by rw [hV]; exact bl2 _ _ _
  have K1 : Blk V w.heap.size 27 #[.int .i64 g, .slice a l.length c] := by rw [hV]; exact (Blk.new _ _ _).alloc _
  have K2 : Blk V (w.heap.size + 1) 27 #[.int .i64 0, .slice none 0 0] := by rw [hV]; have := Blk.new (w.alloc (.cells #[.int .i64 g, .slice a l.length c] 27)) 27 #[.int .i64 0, .slice none 0 0]; simpa using this
  clear hV
  refine (isFamI_any g l _ _ (hv.below B (Nat.le_refl _))).mono ?_
  rintro e w1 ⟨rfl, hb1⟩
  rw [HF.out]
  have K1' := K1.keep hb1
  have K2' := K2.keep hb1
  have B1 := B.after hb1 B.size
  have G1 := K1'.cell
  have z1 := K1'.lt
  have z2 := K2'.lt
  have hv1 := hv.below B1 (Nat.le_refl _)
  clear K1 K2 B hb1
  go_wp2_with fail
  have G2 := K2'.cell
  have F2 := K2'.frozen
  go_region_held3 (fun w' => (∀ i, w'.cell? ⟨w.heap.size, i, none⟩ = (#[.int .i64 g, .slice a l.length c] : Array Value)[i]?)) (go_keep)
    (first
      | (go_at_call 152; refine (minimalOf_any l _ _ (hv1.below (B := w1.heap.size) (by repeat (first | exact Below.refl _ _ | (with_reducible refine Below.setCell ?_ (by first | omega | (simp; done) | (simp; omega)) _) | (with_reducible refine Below.alloc ?_ (by first | omega | (simp; done) | (simp; omega)) _) | (with_reducible refine Below.drewN' ?_ _) | (with_reducible refine Below.drew ?_) | (with_reducible assumption) | refine Below.trans ?_ (Below.mono (by assumption) (by first | omega | (simp; done) | (simp; omega))))) (Nat.le_refl _)) HM.out hl).mono ?_; rintro e w3 ⟨p3, i3, q3, rfl, o3, hb3⟩; obtain ⟨hc3, hf3⟩ := bcellN hb3 w1.heap.size (by first | omega | (simp; done) | (simp; omega)); have z3 := hb3.size; (try simp at z3)))
  go_wp2
  refine post_named ?_
  intro Wf hWf
  have K2f : Blk Wf (w.heap.size + 1) 27 #[.int .i64 g, .slice p3 i3 q3] := by
    rw [hWf]
    have := (((K2'.drewN 1).keep hb3).set 0 (.int .i64 g)).set 1 (.slice p3 i3 q3)
    simpa using this
  have Bf : Below w.heap.size w Wf := by rw [hWf]; exact Below.setCell (Below.setCell ((B1.drewN' 1).after hb3 (by first | omega | (simp; done) | (simp; omega))) (by first | omega | (simp; done) | (simp; omega)) _) (by first | omega | (simp; done) | (simp; omega)) _
  have of : OwnI 3 w.heap.size Wf (.slice p3 i3 q3) (minL l) := by rw [hWf]; exact ((o3.setBelow (by first | omega | (simp; done) | (simp; omega)) _).setBelow (by first | omega | (simp; done) | (simp; omega)) _).mono (by first | omega | (simp; done) | (simp; omega))
  have Gf := K2f.cell
  clear hWf G1 G2 F2 hc3 hf3
  exact bodyPost_ret (v := .tuple #[.agg #[.int .i64 g, .slice p3 i3 q3], .bool true]) (by simp [results, Tryz.results34, go_sem, Gf]) rfl ⟨_, _, _, rfl, of, Bf⟩

theorem chosen_mem (P : Nat → Bool) (k : Nat) : ∀ x ∈ chosen P k, 0 ≤ x ∧ x < (k : Int) := by
  intro x hx
  unfold chosen at hx
  obtain ⟨y, hy, rfl⟩ := List.mem_map.1 hx
  have := List.mem_range.1 (List.mem_filter.1 hy).1
  exact ⟨Int.natCast_nonneg _, by show (y : Int) < k; omega⟩
theorem chosen_asc (P : Nat → Bool) (k : Nat) : (chosen P k).Pairwise (· < ·) := by
  induction k with
  | zero => simp [chosen]
  | succ k ih =>
    rw [chosen_succ]
    split
    · rw [List.pairwise_append]
      refine ⟨ih, by simp, fun a ha b hb => ?_⟩
      simp only [List.mem_singleton] at hb
      have := chosen_mem P k a ha
      omega
    · exact ih
theorem chosen_fam (P : Nat → Bool) (g : Nat) (hg : g ≤ 6) : isFamB g (chosen P (2 ^ g)) = true := by
  unfold isFamB areSetsB ascB
  have h1 : inB (g : Int) 0 6 = true := inB_true.2 ⟨by omega, by omega⟩
  rw [h1, decide_eq_true (chosen_asc P _)]
  simp only [Bool.true_and, Bool.and_true, List.all_eq_true]
  intro x hx
  have := chosen_mem P _ x hx
  have e : ((2 ^ g : Nat) : Int) = (2 : Int) ^ g := by push_cast; rfl
  refine isSet_true.2 ⟨this.1, ?_⟩
  have e2 : (g : Int).toNat = g := by omega
  rw [e2, ← e]; exact this.2
theorem minL_mem {l : List Int} {x : Int} (h : x ∈ minL l) : x ∈ l := (List.mem_filter.1 h).1
def blkAll (g : Nat) (l : List Int) : List Int := chosen (fun s => meetB l (s : Int)) (2 ^ g)
def blkN (g : Int) (l : List Int) : Int := if isFamB g l then g else 0
def blkL (g : Int) (l : List Int) : List Int := if isFamB g l then minL (blkAll g.toNat l) else []
theorem blkAll_bd (g : Nat) (hg : g ≤ 6) (l : List Int) : (∀ x ∈ blkAll g l, 0 ≤ x ∧ x < 64) ∧ (blkAll g l).length ≤ 64 := by
  have hp : (2 : Nat) ^ g ≤ 2 ^ 6 := Nat.pow_le_pow_right (by decide) hg
  refine ⟨fun x hx => ?_, ?_⟩
  · have := chosen_mem _ _ x hx
    have h : ((2 ^ g : Nat) : Int) ≤ 64 := by exact_mod_cast hp
    omega
  · have := chosen_len (fun s => meetB l (s : Int)) (2 ^ g)
    unfold blkAll; omega
theorem blkClosure (w : World) (g s : Nat) (l : List Int) (v : Value) (hv : Ints w v l) (d : w.cell? ⟨g, 1, none⟩ = some v) (hs : s < 64) (hm : ∀ x ∈ l, 0 ≤ x ∧ x < 64) :
    Calls Tryz.prog 150 #[.int .i64 (s : Int), .pointer (some ⟨g, 0, none⟩)] w fun e w' => e = .returned (.bool (meetB l s)) ∧ Below w.heap.size w w' := by
  obtain ⟨a, c, rfl⟩ := hv.shape
  have hcl := meetsAll_any l _ (s : Int) w hv hm (by omega) (by omega)
  clear hm
  go_enter Tryz.func150, Tryz.ntmps150
  go_wp2_with (go_at_call 151; refine hcl.mono ?_; rintro e w' ⟨rfl, rfl⟩)
  go_ret
  exact ⟨rfl, Below.refl _ _⟩
theorem blkClosure_enters : ∀ args w, (callFunc 150 args).run Tryz.prog w = .ok (.enter 150 args) w := enters_of Tryz.func150 (by kernel_rfl) rfl

set_option maxHeartbeats 1000000 in
set_option maxRecDepth 100000 in
theorem blockerI_c (w : World) (g : Int) (v : Value) (l : List Int) (hv : Ints w v l) (_ : l.length ≤ 1048576) :
    Calls Tryz.prog 33 #[.agg #[.int .i64 g, v]] w fun e w' => ∃ ad i cp, e = .returned (.tuple #[.agg #[.int .i64 (blkN g l), .slice ad i cp], .bool (isFamB g l)]) ∧ OwnI 3 w.heap.size w' (.slice ad i cp) (blkL g l) ∧ Below w.heap.size w w' := by
  obtain ⟨a, c, rfl⟩ := hv.shape
  go_enter Tryz.func33, Tryz.ntmps33
  go_wp2_with fail
  refine calls_named ?_
  intro V hV
  have B : Below w.heap.size w V := by rw [hV]; exact bl2 _ _ _
  have K1 : Blk V w.heap.size 27 #[.int .i64 g, .slice a l.length c] := by rw [hV]; exact (Blk.new _ _ _).alloc _
  have K2 : Blk V (w.heap.size + 1) 27 #[.int .i64 0, .slice none 0 0] := by rw [hV]; have := Blk.new (w.alloc (.cells #[.int .i64 g, .slice a l.length c] 27)) 27 #[.int .i64 0, .slice none 0 0]; simpa using this
  clear hV
  refine (isFamI_any g l _ _ (hv.below B (Nat.le_refl _))).mono ?_
  rintro e w1 ⟨rfl, hb1⟩
  have K1' := K1.keep hb1
  have K2' := K2.keep hb1
  have B1 := B.after hb1 B.size
  have G1 := K1'.cell
  have G2 := K2'.cell
  have F2 := K2'.frozen
  have z1 := K1'.lt
  have z2 := K2'.lt
  have hv1 := hv.below B1 (Nat.le_refl _)
  clear K1 K2 B hb1
  cases hf : isFamB g l with
  | false =>
    have hN : blkN g l = 0 := by unfold blkN; rw [hf]; rfl
    have hL : blkL g l = [] := by unfold blkL; rw [hf]; rfl
    have HN := Lib.hid hN
    have HL := Lib.hid hL
    have HF := Lib.hid hf
    clear hN hL
    go_wp2
    refine post_named ?_
    intro Wf hWf
    have K2f : Blk Wf (w.heap.size + 1) 27 #[.int .i64 0, .slice none 0 0] := by
      rw [hWf]
      have := (K2'.set 0 (.int .i64 0)).set 1 (.slice none 0 0)
      simpa using this
    have Bf : Below w.heap.size w Wf := by rw [hWf]; exact Below.setCell (Below.setCell B1 (by first | omega | (simp; done) | (simp; omega)) _) (by first | omega | (simp; done) | (simp; omega)) _
    have Gf := K2f.cell
    clear hWf G1 G2 F2
    exact bodyPost_ret (v := .tuple #[.agg #[.int .i64 0, .slice none 0 0], .bool false]) (by simp [results, Tryz.results33, go_sem, Gf]) rfl ⟨none, 0, 0, by rw [HN.out, HF.out], by rw [HL.out]; exact OwnI.nil _ _ _, Bf⟩
  | true =>
    obtain ⟨h0, h6, _⟩ := famOk hf
    have hm := fam_mem hf
    obtain ⟨n, rfl⟩ := Int.eq_ofNat_of_zero_le h0
    have hn : n ≤ 6 := by omega
    have hN : blkN n l = n := by unfold blkN; rw [hf]; rfl
    have hL : blkL n l = minL (blkAll n l) := by unfold blkL; rw [hf]; rfl
    have HN := Lib.hid hN
    have HL := Lib.hid hL
    have HF := Lib.hid hf
    have hbd := blkAll_bd n hn l
    have hpn : (2 : Nat) ^ n ≤ 64 := Nat.pow_le_pow_right (n := 2) (by decide) hn
    have hch : ∀ W, Ints W (.slice a l.length c) l → W.cell? ⟨w.heap.size, 1, none⟩ = some (.slice a l.length c) → Calls Tryz.prog 147 #[.int .i64 (n : Int), .func (.func 150) #[] #[.pointer (some ⟨w.heap.size, 0, none⟩)]] W fun e w' =>
        ∃ ad i cp, e = .returned (.agg #[.int .i64 (n : Int), .slice ad i cp]) ∧ OwnI 3 W.heap.size w' (.slice ad i cp) (blkAll n l) ∧ Below W.heap.size W w' := fun W hW hd =>
      choose_any W n hn 150 blkClosure_enters w.heap.size (fun s => meetB l (s : Int)) (fun s W' hs hB => blkClosure W' w.heap.size s l _ (hW.keep hB) (keep hB hd) (by omega) hm)
    have hms : ∀ (W : World) (ad : Option Addr) (i cp : Nat), Ints W (.slice ad i cp) (blkAll n l) → Calls Tryz.prog 34 #[.agg #[.int .i64 (n : Int), .slice ad i cp]] W fun e w' =>
        ∃ ad' i' cp', e = .returned (.tuple #[.agg #[.int .i64 (n : Int), .slice ad' i' cp'], .bool true]) ∧ OwnI 3 W.heap.size w' (.slice ad' i' cp') (minL (blkAll n l)) ∧ Below W.heap.size W w' := fun W ad i cp hW =>
      minSets_yes n _ _ W hW (by omega) (chosen_fam _ n hn)
    have HCH := Lib.hid hch
    have HMS := Lib.hid hms
    clear hN hL hbd hpn hch hms hm hf
    go_wp2_with fail
    refine (HCH.out _ hv1 (by rw [G1]; rfl)).mono ?_
    rintro e w3 ⟨p3, i3, q3, rfl, o3, hb3⟩
    have B3 := B1.after hb3 B1.size
    have K2 := K2'.keep hb3
    clear G1 G2 F2
    go_wp2_with fail
    refine (HMS.out _ p3 i3 q3 (o3.alloc _).ints).mono ?_
    rintro e w5 ⟨p5, i5, q5, rfl, o5, hb5⟩
    have b5 : Below w3.heap.size w3 w5 := (bl1 w3 _).after hb5 (by simp)
    have B5 := B3.after b5 B3.size
    have K2 := K2.keep b5
    have G2 := K2.cell
    have F2 := K2.frozen
    have z5 := K2.lt
    have y3 := B3.size
    have y1 := B1.size
    have z6 := hb3.size
    have z7 := b5.size
    go_wp2
    refine post_named ?_
    intro Wf hWf
    have K2f : Blk Wf (w.heap.size + 1) 27 #[.int .i64 n, .slice p5 i5 q5] := by
      rw [hWf]
      have := (K2.set 0 (.int .i64 n)).set 1 (.slice p5 i5 q5)
      simpa using this
    have Bf : Below w.heap.size w Wf := by rw [hWf]; exact Below.setCell (Below.setCell B5 (by first | omega | (simp; done) | (simp; omega)) _) (by first | omega | (simp; done) | (simp; omega)) _
    have of : OwnI 3 w.heap.size Wf (.slice p5 i5 q5) (minL (blkAll n l)) := by
      rw [hWf]
      have o5' := o5.mono (B' := w3.heap.size) (by simp)
      exact ((o5'.setBelow (by first | omega | (simp; done) | (simp; omega)) _).setBelow (by first | omega | (simp; done) | (simp; omega)) _).mono (by first | omega | (simp; done) | (simp; omega))
    have Gf := K2f.cell
    clear hWf G2 F2
    exact bodyPost_ret (v := .tuple #[.agg #[.int .i64 n, .slice p5 i5 q5], .bool true]) (by simp [results, Tryz.results33, go_sem, Gf]) rfl ⟨p5, i5, q5, by rw [HN.out, HF.out], by rw [HL.out]; exact of, Bf⟩

end Go.Proofs.YtipejodijbjpcaaGreatDoor
end
section
namespace Go.Proofs.YtipejodijbjpcaaGreatDoor
open Go.RowKit Go.G5

end Go.Proofs.YtipejodijbjpcaaGreatDoor
end
section
namespace Go.Proofs.YtipejodijbjpcaaGreatDoor
open Go.RowKit Go.G5

end Go.Proofs.YtipejodijbjpcaaGreatDoor
end
section
namespace Go.Proofs.YtipejodijbjpcaaGreatDoor
open Go.RowKit Go.G5

end Go.Proofs.YtipejodijbjpcaaGreatDoor
end
section
namespace Go.Proofs.YtipejodijbjpcaaGreatDoor
open Go.RowKit Go.G5

end Go.Proofs.YtipejodijbjpcaaGreatDoor
end
section
namespace Go.Proofs.YtipejodijbjpcaaGreatDoor
open Go.RowKit Go.G5

end Go.Proofs.YtipejodijbjpcaaGreatDoor
end
section
namespace Go.Proofs.YtipejodijbjpcaaGreatDoor
open Go.RowKit Go.G5

/-- the numbers of traces -/
def trL (l : List Int) (s : Int) : List Int := gatherL (l.map fun t => iand s t)
def shB (l : List Int) (s : Nat) : Bool := (trL l s).length == 2 ^ pop s
def shaL (g : Int) (l : List Int) : List Int := if isFamB g l then chosen (shB l) (2 ^ g.toNat) else []
theorem iand_bd64 (s t : Int) (h0 : 0 ≤ s) (h1 : s < 64) : 0 ≤ iand s t ∧ iand s t < 64 := iand_bd s t 64 h0 h1
theorem pop_g : ∀ g : Nat, g < 7 → ∀ s : Nat, s < 2 ^ g → pop s ≤ g := by decide +kernel
end Go.Proofs.YtipejodijbjpcaaGreatDoor
end
section
namespace Go.Proofs.YtipejodijbjpcaaGreatDoor
open Go.RowKit Go.G5

theorem pow_or (g x : Nat) (hx : x < 2 ^ g) : 2 ^ g + x = 2 ^ g ||| x := by
  have := Nat.two_pow_add_eq_or_of_lt hx 1
  rwa [Nat.mul_one] at this
theorem pow_and1 (g x S : Nat) (hx : x < 2 ^ g) (hS : S < 2 ^ g) : (2 ^ g + x) &&& (2 ^ g + S) = 2 ^ g + (x &&& S) := by
  rw [pow_or g x hx, pow_or g S hS, pow_or g _ (Nat.lt_of_le_of_lt Nat.and_le_left hx)]
  apply Nat.eq_of_testBit_eq
  intro j
  simp only [Nat.testBit_or, Nat.testBit_and]
  cases (2 ^ g).testBit j <;> cases x.testBit j <;> cases S.testBit j <;> rfl
theorem pow_bit (g S j : Nat) (hS : S < 2 ^ g) : ((2 ^ g).testBit j && S.testBit j) = false := by
  by_cases h : j = g
  · rw [h, Nat.testBit_lt_two_pow hS]; simp
  · rw [Nat.testBit_two_pow]
    have : decide (g = j) = false := by simp; omega
    rw [this]; rfl
theorem pow_and2 (g x S : Nat) (hx : x < 2 ^ g) (hS : S < 2 ^ g) : x &&& (2 ^ g + S) = x &&& S := by
  rw [pow_or g S hS]
  apply Nat.eq_of_testBit_eq
  intro j
  have := pow_bit g x j hx
  simp only [Nat.testBit_or, Nat.testBit_and]
  revert this
  cases (2 ^ g).testBit j <;> cases x.testBit j <;> cases S.testBit j <;> simp
theorem pow_and3 (g x S : Nat) (hx : x < 2 ^ g) (hS : S < 2 ^ g) : (2 ^ g + x) &&& S = x &&& S := by
  rw [Nat.and_comm, pow_and2 g S x hS hx, Nat.and_comm]

/-- each part of S is a trace of F -/
def shat (F : List Nat) (S : Nat) : Prop := ∀ t, t &&& S = t → ∃ x, x ∈ F ∧ x &&& S = t
noncomputable def shatC (F : List Nat) (S : Nat) : Bool := @decide (shat F S) (Classical.propDecidable _)
theorem shatC_iff (F : List Nat) (S : Nat) : shatC F S = true ↔ shat F S := by unfold shatC; simp
theorem count_two (m n : Nat) (p : Nat → Bool) : (List.range (m + n)).countP p = (List.range m).countP p + (List.range n).countP (fun k => p (m + k)) := by
  rw [List.range_add, List.countP_append, List.countP_map]
  rfl
theorem count_pair (p q r s : Nat → Bool) : ∀ l : List Nat, (∀ k, k ∈ l → (p k = true → r k = true) ∧ (q k = true → r k = true) ∧ (p k = true → q k = true → s k = true)) → l.countP p + l.countP q ≤ l.countP r + l.countP s := by
  intro l
  induction l with
  | nil => intro _; simp
  | cons a t ih =>
    intro h
    have ih := ih fun k hk => h k (List.mem_cons_of_mem _ hk)
    obtain ⟨h1, h2, h3⟩ := h a (by simp)
    simp only [List.countP_cons]
    revert h1 h2 h3
    cases p a <;> cases q a <;> cases r a <;> cases s a <;> simp <;> omega
theorem shat_low (g : Nat) (F : List Nat) (S : Nat) (h : shat (F.filter fun x => decide (x < 2 ^ g)) S) : shat F S := by
  intro t ht
  obtain ⟨x, hx, e⟩ := h t ht
  exact ⟨x, (List.mem_filter.1 hx).1, e⟩
theorem mem_high {g : Nat} {F : List Nat} (hF : ∀ x ∈ F, x < 2 ^ (g + 1)) {x : Nat} (h : x ∈ (F.filter fun x => !decide (x < 2 ^ g)).map fun x => x - 2 ^ g) : x < 2 ^ g ∧ 2 ^ g + x ∈ F := by
  obtain ⟨y, hy, rfl⟩ := List.mem_map.1 h
  obtain ⟨h1, h2⟩ := List.mem_filter.1 hy
  have h3 := hF y h1
  simp at h2
  rw [Nat.pow_succ] at h3
  exact ⟨by omega, by rw [show 2 ^ g + (y - 2 ^ g) = y by omega]; exact h1⟩
theorem shat_high (g : Nat) (F : List Nat) (hF : ∀ x ∈ F, x < 2 ^ (g + 1)) (S : Nat) (hS : S < 2 ^ g) (h : shat ((F.filter fun x => !decide (x < 2 ^ g)).map fun x => x - 2 ^ g) S) : shat F S := by
  intro t ht
  obtain ⟨x, hx, e⟩ := h t ht
  obtain ⟨h1, h2⟩ := mem_high hF hx
  exact ⟨_, h2, by rw [pow_and3 g x S h1 hS]; exact e⟩
theorem shat_both (g : Nat) (F : List Nat) (hF : ∀ x ∈ F, x < 2 ^ (g + 1)) (S : Nat) (hS : S < 2 ^ g) (h0 : shat (F.filter fun x => decide (x < 2 ^ g)) S) (h1 : shat ((F.filter fun x => !decide (x < 2 ^ g)).map fun x => x - 2 ^ g) S) : shat F (2 ^ g + S) := by
  intro t ht
  by_cases hlt : t < 2 ^ g
  · rw [pow_and2 g t S hlt hS] at ht
    obtain ⟨x, hx, e⟩ := h0 t ht
    obtain ⟨h2, h3⟩ := List.mem_filter.1 hx
    simp at h3
    exact ⟨x, h2, by rw [pow_and2 g x S h3 hS]; exact e⟩
  · have hle : t ≤ 2 ^ g + S := by rw [← ht]; exact Nat.and_le_right
    obtain ⟨u, rfl⟩ : ∃ u, t = 2 ^ g + u := ⟨t - 2 ^ g, by omega⟩
    rw [pow_and1 g u S (by omega) hS] at ht
    obtain ⟨x, hx, e⟩ := h1 u (by omega)
    obtain ⟨h2, h3⟩ := mem_high hF hx
    exact ⟨_, h3, by rw [pow_and1 g x S h2 hS, e]⟩
theorem sauer : ∀ (g : Nat) (F : List Nat), F.Pairwise (· ≠ ·) → (∀ x ∈ F, x < 2 ^ g) → F.length ≤ (List.range (2 ^ g)).countP (shatC F) := by
  intro g
  induction g with
  | zero =>
    intro F hn hF
    match F, hn, hF with
    | [], _, _ => simp
    | x :: r, hn, hF =>
      have hx := hF x (by simp)
      have hr : r = [] := by
        cases r with
        | nil => rfl
        | cons y t =>
          have hy := hF y (by simp)
          exact absurd (show x = y by simp at hx hy; omega) ((List.pairwise_cons.1 hn).1 y (by simp))
      subst hr
      have h : shatC [x] 0 = true := by
        rw [shatC_iff]
        intro t ht
        exact ⟨x, by simp, by rw [Nat.and_zero] at ht ⊢; exact ht⟩
      show 1 ≤ (List.range (2 ^ 0)).countP (shatC [x])
      rw [show List.range (2 ^ 0) = [0] from rfl]
      simp [h]
  | succ g ih =>
    intro F hn hF
    have e1 : F.length = (F.filter fun x => decide (x < 2 ^ g)).length + ((F.filter fun x => !decide (x < 2 ^ g)).map fun x => x - 2 ^ g).length := by
      rw [List.length_map, ← List.countP_eq_length_filter, ← List.countP_eq_length_filter]
      rw [List.length_eq_countP_add_countP (fun x => decide (x < 2 ^ g))]
      congr 1
      exact List.countP_congr fun x _ => by simp
    have i0 := ih (F.filter fun x => decide (x < 2 ^ g)) (hn.filter _) (fun x hx => by simpa using (List.mem_filter.1 hx).2)
    have i1 := ih ((F.filter fun x => !decide (x < 2 ^ g)).map fun x => x - 2 ^ g) (by
      rw [List.pairwise_map]
      refine List.Pairwise.imp_of_mem ?_ (hn.filter _)
      intro a b ha hb hab
      have h1 := (List.mem_filter.1 ha).2
      have h2 := (List.mem_filter.1 hb).2
      simp at h1 h2
      omega) (fun x hx => (mem_high hF hx).1)
    have c := count_pair (shatC (F.filter fun x => decide (x < 2 ^ g))) (shatC ((F.filter fun x => !decide (x < 2 ^ g)).map fun x => x - 2 ^ g)) (shatC F) (fun k => shatC F (2 ^ g + k)) (List.range (2 ^ g)) (fun k hk => by
      have hk := List.mem_range.1 hk
      simp only [shatC_iff]
      exact ⟨shat_low g F k, shat_high g F hF k hk, shat_both g F hF k hk⟩)
    rw [show 2 ^ (g + 1) = 2 ^ g + 2 ^ g by rw [Nat.pow_succ]; omega, count_two]
    omega
theorem parts_count : ∀ s : Nat, s < 64 → (chosen (fun k => k &&& s == k) 64).length = 2 ^ pop s := by decide +kernel
theorem shB_of (l : List Int) (hm : ∀ x ∈ l, 0 ≤ x ∧ x < 64) (s : Nat) (hs : s < 64) (h : shat (l.map Int.toNat) s) : shB l s = true := by
  unfold shB
  have e : trL l (s : Int) = chosen (fun k => k &&& s == k) 64 := by
    unfold trL
    refine asc_ext _ _ (gatherL_asc _) (chosen_asc _ _) fun x => ?_
    rw [gatherL_mem, List.mem_map, mem_chosenB]
    constructor
    · rintro ⟨t, ht, rfl⟩
      have hb := hm t ht
      refine ⟨s &&& t.toNat, Nat.lt_of_le_of_lt Nat.and_le_left hs, ?_, by unfold iand; rw [Int.toNat_natCast]⟩
      rw [beq_iff_eq, Nat.and_comm s, Nat.and_assoc, Nat.and_self]
    · rintro ⟨k, hk, hks, rfl⟩
      obtain ⟨y, hy, e⟩ := h k (by simpa using hks)
      obtain ⟨t, ht, rfl⟩ := List.mem_map.1 hy
      exact ⟨t, ht, by unfold iand; rw [Int.toNat_natCast, Nat.and_comm, e]⟩
  rw [e, parts_count s hs]
  simp
theorem chosen_count (P : Nat → Bool) (n : Nat) : (chosen P n).length = (List.range n).countP P := by
  unfold chosen
  rw [List.length_map, List.countP_eq_length_filter]
/-- as many sets are shattered as there are, or more -/
theorem shaL_many (g : Int) (l : List Int) (hf : isFamB g l = true) : l.length ≤ (shaL g l).length := by
  obtain ⟨h0, h6, hq1, hq2⟩ := famOk hf
  obtain ⟨N, rfl⟩ := Int.eq_ofNat_of_zero_le h0
  have h64 : (2 : Nat) ^ N ≤ 2 ^ 6 := Nat.pow_le_pow_right (by decide) (by omega)
  have hpe : ((2 : Int) ^ N) = ((2 ^ N : Nat) : Int) := by simp
  have hm := fam_mem hf
  unfold shaL
  rw [if_pos hf, Int.toNat_natCast, chosen_count]
  have hlt : ∀ x ∈ l.map Int.toNat, x < 2 ^ N := by
    intro x hx
    obtain ⟨y, hy, rfl⟩ := List.mem_map.1 hx
    have := hq1 y hy
    rw [Int.toNat_natCast, hpe] at this
    omega
  have hnd : (l.map Int.toNat).Pairwise (· ≠ ·) := by
    rw [List.pairwise_map]
    refine List.Pairwise.imp_of_mem ?_ (show l.Pairwise (· < ·) from hq2)
    intro a b ha hb hab
    have := hm a ha
    have := hm b hb
    omega
  have h1 := sauer N (l.map Int.toNat) hnd hlt
  rw [List.length_map] at h1
  refine Nat.le_trans h1 (List.countP_mono_left fun k hk hs => ?_)
  have hk := List.mem_range.1 hk
  exact shB_of l hm k (by omega) ((shatC_iff _ _).1 hs)
end Go.Proofs.YtipejodijbjpcaaGreatDoor
end
section
namespace Go.Proofs.YtipejodijbjpcaaGreatDoor
open Go.RowKit Go.G5

def subN (a b : Nat) : Prop := ∀ j, a.testBit j = true → b.testBit j = true
theorem subN_and (a b : Nat) : subN a b ↔ a &&& b = a := by
  constructor
  · intro h
    apply Nat.eq_of_testBit_eq
    intro j
    rw [Nat.testBit_and]
    cases ha : a.testBit j with
    | false => rfl
    | true => rw [h j ha]; rfl
  · intro h j ha
    rw [← h, Nat.testBit_and, Bool.and_eq_true] at ha
    exact ha.2
theorem subN_le {a b : Nat} (h : subN a b) : a ≤ b := by rw [← (subN_and a b).1 h]; exact Nat.and_le_right
theorem subN_trans {a b c : Nat} (h : subN a b) (k : subN b c) : subN a c := fun j hj => k j (h j hj)
theorem subN_anti {a b : Nat} (h : subN a b) (k : subN b a) : a = b := Nat.le_antisymm (subN_le h) (subN_le k)
theorem idif_subE (a b : Int) : (idif a b == 0) = true ↔ subN a.toNat b.toNat := by
  rw [subN_and]
  unfold idif ndiff
  have := @Nat.and_le_left a.toNat b.toNat
  constructor
  · intro h
    have h := eq_of_beq h
    omega
  · intro h
    rw [h]
    simp
theorem iand_meet (a b : Int) : (iand a b != 0) = true ↔ ∃ j, a.toNat.testBit j = true ∧ b.toNat.testBit j = true := by
  unfold iand
  constructor
  · intro h
    have h0 : a.toNat &&& b.toNat ≠ 0 := by
      intro e
      rw [e] at h
      simp at h
    obtain ⟨j, hj⟩ := Nat.exists_testBit_of_ne_zero h0
    rw [Nat.testBit_and, Bool.and_eq_true] at hj
    exact ⟨j, hj.1, hj.2⟩
  · rintro ⟨j, h1, h2⟩
    have h0 : a.toNat &&& b.toNat ≠ 0 := by
      intro e
      have : (a.toNat &&& b.toNat).testBit j = true := by rw [Nat.testBit_and, h1, h2]; rfl
      rw [e] at this
      simp at this
    simp only [bne_iff_ne, ne_eq]
    omega
theorem subsB_iff (s t : Int) : subsB s t = true ↔ t ≠ s ∧ subN t.toNat s.toNat := by
  unfold subsB
  rw [Bool.and_eq_true, idif_subE]
  simp
theorem minL_iff (l : List Int) (x : Int) : x ∈ minL l ↔ x ∈ l ∧ ∀ y ∈ l, y ≠ x → ¬ subN y.toNat x.toNat := by
  unfold minL
  rw [List.mem_filter]
  constructor
  · rintro ⟨h1, h2⟩
    refine ⟨h1, fun y hy hne hs => ?_⟩
    have : l.any (subsB x) = true := List.any_eq_true.2 ⟨y, hy, (subsB_iff x y).2 ⟨hne, hs⟩⟩
    rw [this] at h2
    cases h2
  · rintro ⟨h1, h2⟩
    refine ⟨h1, ?_⟩
    cases h : l.any (subsB x) with
    | false => rfl
    | true =>
      obtain ⟨y, hy, hs⟩ := List.any_eq_true.1 h
      obtain ⟨hne, hs⟩ := (subsB_iff x y).1 hs
      exact absurd hs (h2 y hy hne)
theorem min_below (l : List Int) (hl : ∀ x ∈ l, 0 ≤ x) : ∀ (m : Nat) (t : Int), t.toNat ≤ m → t ∈ l → ∃ b ∈ minL l, subN b.toNat t.toNat := by
  intro m
  induction m with
  | zero =>
    intro t hm ht
    refine ⟨t, (minL_iff l t).2 ⟨ht, fun y hy hne hs => ?_⟩, fun _ h => h⟩
    have := subN_le hs
    have := hl y hy
    have := hl t ht
    omega
  | succ m ih =>
    intro t hm ht
    by_cases hmin : t ∈ minL l
    · exact ⟨t, hmin, fun _ h => h⟩
    · have : ∃ y ∈ l, y ≠ t ∧ subN y.toNat t.toNat := Classical.byContradiction fun hno => hmin ((minL_iff l t).2 ⟨ht, fun y hy hne hs => hno ⟨y, hy, hne, hs⟩⟩)
      obtain ⟨y, hy, hne, hs⟩ := this
      have h1 := subN_le hs
      have h2 := hl y hy
      have h3 := hl t ht
      obtain ⟨b, hb, hbs⟩ := ih y (by omega) hy
      exact ⟨b, hb, subN_trans hbs hs⟩
theorem meetB_iff (l : List Int) (t : Int) : meetB l t = true ↔ ∀ s ∈ l, ∃ j, s.toNat.testBit j = true ∧ t.toNat.testBit j = true := by
  unfold meetB
  rw [List.all_eq_true]
  exact ⟨fun h s hs => (iand_meet s t).1 (h s hs), fun h s hs => (iand_meet s t).2 (h s hs)⟩
theorem blkAll_iff (g : Nat) (l : List Int) (t : Int) : t ∈ blkAll g l ↔ 0 ≤ t ∧ t < 2 ^ g ∧ ∀ s ∈ l, ∃ j, s.toNat.testBit j = true ∧ t.toNat.testBit j = true := by
  have hp : ((2 ^ g : Nat) : Int) = (2 : Int) ^ g := by push_cast; rfl
  unfold blkAll chosen
  simp only [List.mem_map, List.mem_filter, List.mem_range]
  constructor
  · rintro ⟨e, ⟨he, hm⟩, rfl⟩
    exact ⟨Int.natCast_nonneg _, by show ((e : Nat) : Int) < _; omega, (meetB_iff l _).1 hm⟩
  · rintro ⟨h0, h1, h2⟩
    refine ⟨t.toNat, ⟨by omega, ?_⟩, by show ((t.toNat : Nat) : Int) = t; omega⟩
    rw [show ((t.toNat : Nat) : Int) = t by omega]
    exact (meetB_iff l t).2 h2
end Go.Proofs.YtipejodijbjpcaaGreatDoor
end
section
namespace Go.Proofs.YtipejodijbjpcaaGreatDoor
open Go.RowKit Go.G5

theorem fam_filter (P : Int → Bool) {g : Int} {l : List Int} (hf : isFamB g l = true) : isFamB g (l.filter P) = true := by
  obtain ⟨h0, h6, h1, h2⟩ := famOk hf
  unfold isFamB areSetsB ascB
  rw [inB_true.2 ⟨h0, h6⟩, decide_eq_true (h2.filter _)]
  simp only [Bool.true_and, Bool.and_true, List.all_eq_true]
  intro x hx
  exact isSet_true.2 (h1 x (List.mem_filter.1 hx).1)
theorem blkL_fam (g : Int) (l : List Int) (hf : isFamB g l = true) : isFamB g (blkL g l) = true := by
  obtain ⟨h0, h6, _, _⟩ := famOk hf
  obtain ⟨N, rfl⟩ := Int.eq_ofNat_of_zero_le h0
  unfold blkL blkAll
  rw [if_pos hf, Int.toNat_natCast]
  exact fam_filter _ (chosen_fam _ N (by omega))
theorem not_sub {a b : Nat} (h : ¬ subN a b) : ∃ j, a.testBit j = true ∧ b.testBit j = false := by
  refine Classical.byContradiction fun hno => h fun j hj => ?_
  cases hb : b.testBit j with
  | true => rfl
  | false => exact absurd ⟨j, hj, hb⟩ hno
theorem bit_in (N x j : Nat) (hx : x < 2 ^ N) (h : x.testBit j = true) : j < N := by
  by_cases hj : j < N
  · exact hj
  · rw [Nat.testBit_lt_two_pow (Nat.lt_of_lt_of_le hx (Nat.pow_le_pow_right (by decide) (by omega)))] at h
    cases h
theorem up_iff (N : Nat) (l : List Int) (hm : ∀ x ∈ l, 0 ≤ x ∧ x < 2 ^ N) (t : Int) : t ∈ blkAll N (minL (blkAll N l)) ↔ 0 ≤ t ∧ t < 2 ^ N ∧ ∃ s ∈ l, subN s.toNat t.toNat := by
  have hp : ((2 ^ N : Nat) : Int) = (2 : Int) ^ N := by push_cast; rfl
  rw [blkAll_iff]
  constructor
  · rintro ⟨h0, h1, h⟩
    refine ⟨h0, h1, Classical.byContradiction fun hno => ?_⟩
    have ht : t.toNat < 2 ^ N := by omega
    have hc : ((2 ^ N - (t.toNat + 1) : Nat) : Int) ∈ blkAll N l := by
      rw [blkAll_iff]
      refine ⟨Int.natCast_nonneg _, by rw [← hp]; omega, fun s hs => ?_⟩
      obtain ⟨j, hj, hjt⟩ := not_sub (fun k => hno ⟨s, hs, k⟩ : ¬ subN s.toNat t.toNat)
      have hs2 := hm s hs
      have hjN := bit_in N s.toNat j (by omega) hj
      refine ⟨j, hj, ?_⟩
      rw [Int.toNat_natCast, Nat.testBit_two_pow_sub_succ ht, hjt]
      simp [hjN]
    obtain ⟨b, hb, hbs⟩ := min_below _ (fun x hx => ((blkAll_iff N l x).1 hx).1) _ _ (Nat.le_refl _) hc
    obtain ⟨j, hj1, hj2⟩ := h b hb
    have := hbs j hj1
    rw [Int.toNat_natCast, Nat.testBit_two_pow_sub_succ ht, hj2] at this
    simp at this
  · rintro ⟨h0, h1, s, hs, hst⟩
    refine ⟨h0, h1, fun b hb => ?_⟩
    obtain ⟨j, h2, h3⟩ := ((blkAll_iff N l b).1 (minL_mem hb)).2.2 s hs
    exact ⟨j, h3, hst j h2⟩
theorem blk_twice (g : Int) (l : List Int) (hf : isFamB g l = true) : blkL g (blkL g l) = minL l := by
  have hfb := blkL_fam g l hf
  obtain ⟨h0, h6, hq, ha⟩ := famOk hf
  obtain ⟨N, rfl⟩ := Int.eq_ofNat_of_zero_le h0
  rw [Int.toNat_natCast] at hq
  have hb : blkL (N : Int) l = minL (blkAll N l) := by unfold blkL; rw [if_pos hf, Int.toNat_natCast]
  have hb2 : blkL (N : Int) (blkL (N : Int) l) = minL (blkAll N (blkL (N : Int) l)) := by
    rw [show blkL (N : Int) (blkL (N : Int) l) = if isFamB (N : Int) (blkL (N : Int) l) then minL (blkAll ((N : Int)).toNat (blkL (N : Int) l)) else [] from rfl, if_pos hfb, Int.toNat_natCast]
  rw [hb2, hb]
  refine asc_ext _ _ ((chosen_asc _ _).filter _) (ha.filter _) fun x => ?_
  rw [minL_iff, minL_iff, up_iff N l hq]
  have hU : ∀ y ∈ l, y ∈ blkAll N (minL (blkAll N l)) := fun y hy => (up_iff N l hq y).2 ⟨(hq y hy).1, (hq y hy).2, y, hy, fun _ h => h⟩
  constructor
  · rintro ⟨⟨h1, h2, s, hs, hsx⟩, hmin⟩
    have hxs : s = x := Classical.byContradiction fun hne => hmin s (hU s hs) hne hsx
    subst hxs
    exact ⟨hs, fun y hy => hmin y (hU y hy)⟩
  · rintro ⟨hx, hmin⟩
    refine ⟨⟨(hq x hx).1, (hq x hx).2, x, hx, fun _ h => h⟩, fun y hy hne hyx => ?_⟩
    obtain ⟨hy0, _, s, hs, hsy⟩ := (up_iff N l hq y).1 hy
    have hsx := subN_trans hsy hyx
    have hse : s = x := Classical.byContradiction fun hne => hmin s hs hne hsx
    subst hse
    have := subN_anti hsy hyx
    have := (hq s hs).1
    omega
end Go.Proofs.YtipejodijbjpcaaGreatDoor
end
section
namespace Go.Proofs.YtipejodijbjpcaaGreatDoor
open Go.RowKit Go.G5

/-- what holds of a function's text that is read -/
theorem tx_fun (s : ByteArray) : fdB s = true → isFunB (fdN s) (fdL s) = true ∧ funTx (fdN s) (fdL s) = s ∧ violB (fdN s) (fdL s) = (!subB (fdN s) (fdL s)) ∧ (fdL s).length ≤ 1048576 := by
  intro h
  have hf := fd_fun h
  refine ⟨hf, fun_back h, ?_, ?_⟩
  · unfold subB; rw [hf]; simp
  · obtain ⟨_, _, _, _, h32, _⟩ := fun_nat hf
    omega
theorem tx_fam (n : Int) (t : ByteArray) : pmB n t = true → isFamB (pmN n t) (pmL n t) = true ∧ famTx (pmN n t) (pmL n t) = t ∧ (pmL n t).length ≤ (shaL (pmN n t) (pmL n t)).length ∧ (pmL n t).length ≤ 1048576 ∧
    blkN (pmN n t) (pmL n t) = pmN n t ∧ isFamB (pmN n t) (blkL (pmN n t) (pmL n t)) = true ∧ blkN (pmN n t) (blkL (pmN n t) (pmL n t)) = pmN n t ∧ blkL (pmN n t) (blkL (pmN n t) (pmL n t)) = minL (pmL n t) ∧
    (hcOk (pmN n t) (pmL n t) = true → chkB (hcK (pmN n t) (pmL n t)) 0 [] 0 [] (hcG (pmN n t) (pmL n t)) (hcF (pmN n t) (pmL n t)) (hcN (pmN n t) (pmL n t)) 0 (hcL (pmN n t) (pmL n t)) = true) := by
  intro h
  have hn : pmN n t = n := by unfold pmN; rw [if_pos h]
  have hf := pm_fam h
  have hb := fam_back h
  rw [hn]
  have hbf := blkL_fam n _ hf
  refine ⟨hf, hb, shaL_many n _ hf, Nat.le_trans (fam_len hf) (by decide), ?_, hbf, ?_, blk_twice n _ hf, fun h => ch_ok n _ 0 [] 0 [] 0 h⟩
  · unfold blkN; rw [if_pos hf]
  · unfold blkN; rw [if_pos hbf]
theorem tx_dual (n : Int) (l : List Int) : dvB n l = (subB n l && isGrB n l) := by
  cases h : duB n l with
  | true =>
    rw [(dual_ok n l h).1]
    unfold duB at h
    rw [Bool.and_comm]; exact h.symm
  | false =>
    have e : dvB n l = false := by unfold dvB; rw [h]; rfl
    rw [e]
    unfold duB at h
    rw [Bool.and_comm]; exact h.symm
theorem tx_all (n : Int) (l : List Int) (hf : isFunB n l = true) (ls : List (List Int)) (h1 : ∀ x ∈ ls, ∃ o, o ∈ ordersN n.toNat n.toNat ∧ x = cornerL l o) (h2 : ∀ o, o ∈ ordersN n.toNat n.toNat → cornerL l o ∈ ls)
    (hb : (isGrB n l && decide (n ≤ 4)) = true) : (ls.all fun x => baseB n l x) = subB n l := by
  obtain ⟨N, rfl, _⟩ := fun_nat hf
  rw [Bool.and_eq_true, decide_eq_true_eq] at hb
  rw [Int.toNat_natCast] at h1 h2
  exact corners_tell N (by omega) l hb.1 ls h1 h2
end Go.Proofs.YtipejodijbjpcaaGreatDoor
end
