/- Blockers. -/
import Derived.Test.YtipejodijbjpcaaGreatDoorQ24
import Derived.Deep.RegionHeld3
section
namespace Go.Proofs.YtipejodijbjpcaaGreatDoor
open Go.RowKit Go.G5

set_option maxHeartbeats 1000000 in
set_option maxRecDepth 100000 in
theorem minSets_yes (g : Int) (l : List Int) (v : Value) (w : World) (hv : Ints w v l) (hl : l.length ≤ 1048576) (hf : isFamB g l = true) :
    Calls Tryz.prog 34 #[.agg #[.int .i64 g, v]] w fun e w' => ∃ ad i cp, e = .returned (.tuple #[.agg #[.int .i64 g, .slice ad i cp], .bool true]) ∧ OwnI 3 w.heap.size w' (.slice ad i cp) (minL l) ∧ Below w.heap.size w w' := by
  obtain ⟨a, c, rfl⟩ := hv.shape
  have hm := fam_mem hf
  have HM := Lib.hid hm
  have HF := Lib.hid hf
  clear hm hf
  go_enter Tryz.func34, Tryz.ntmps34
  go_wp2_with fail
  refine calls_named ?_
  intro V hV
  have B : Below w.heap.size w V := by rw [hV]; exact bl2 _ _ _
  have K1 : Blk V w.heap.size 27 #[.int .i64 g, .slice a l.length c] := by rw [hV]; exact (Blk.new _ _ _).alloc _
  have K2 : Blk V (w.heap.size + 1) 27 #[.int .i64 0, .slice none 0 0] := by rw [hV]; have := Blk.new (w.alloc (.cells #[.int .i64 g, .slice a l.length c] 27)) 27 #[.int .i64 0, .slice none 0 0]; simpa using this
  clear hV
  refine (isFamI_any g l _ _ (hv.below B (Nat.le_refl _))).mono ?_
  rintro e w1 ⟨rfl, hb1⟩
  rw [HF.out]
  have K1' := K1.keep hb1
  have K2' := K2.keep hb1
  have B1 := B.after hb1 B.size
  have G1 := K1'.cell
  have z1 := K1'.lt
  have z2 := K2'.lt
  have hv1 := hv.below B1 (Nat.le_refl _)
  clear K1 K2 B hb1
  go_wp2_with fail
  have G2 := K2'.cell
  have F2 := K2'.frozen
  go_region_held3 (fun w' => (∀ i, w'.cell? ⟨w.heap.size, i, none⟩ = (#[.int .i64 g, .slice a l.length c] : Array Value)[i]?)) (go_keep)
    (first
      | (go_at_call 152; refine (minimalOf_any l _ _ (hv1.below (B := w1.heap.size) (by repeat (first | exact Below.refl _ _ | (with_reducible refine Below.setCell ?_ (by first | omega | (simp; done) | (simp; omega)) _) | (with_reducible refine Below.alloc ?_ (by first | omega | (simp; done) | (simp; omega)) _) | (with_reducible refine Below.drewN' ?_ _) | (with_reducible refine Below.drew ?_) | (with_reducible assumption) | refine Below.trans ?_ (Below.mono (by assumption) (by first | omega | (simp; done) | (simp; omega))))) (Nat.le_refl _)) HM.out hl).mono ?_; rintro e w3 ⟨p3, i3, q3, rfl, o3, hb3⟩; obtain ⟨hc3, hf3⟩ := bcellN hb3 w1.heap.size (by first | omega | (simp; done) | (simp; omega)); have z3 := hb3.size; (try simp at z3)))
  go_wp2
  refine post_named ?_
  intro Wf hWf
  have K2f : Blk Wf (w.heap.size + 1) 27 #[.int .i64 g, .slice p3 i3 q3] := by
    rw [hWf]
    have := (((K2'.drewN 1).keep hb3).set 0 (.int .i64 g)).set 1 (.slice p3 i3 q3)
    simpa using this
  have Bf : Below w.heap.size w Wf := by rw [hWf]; exact Below.setCell (Below.setCell ((B1.drewN' 1).after hb3 (by first | omega | (simp; done) | (simp; omega))) (by first | omega | (simp; done) | (simp; omega)) _) (by first | omega | (simp; done) | (simp; omega)) _
  have of : OwnI 3 w.heap.size Wf (.slice p3 i3 q3) (minL l) := by rw [hWf]; exact ((o3.setBelow (by first | omega | (simp; done) | (simp; omega)) _).setBelow (by first | omega | (simp; done) | (simp; omega)) _).mono (by first | omega | (simp; done) | (simp; omega))
  have Gf := K2f.cell
  clear hWf G1 G2 F2 hc3 hf3
  exact bodyPost_ret (v := .tuple #[.agg #[.int .i64 g, .slice p3 i3 q3], .bool true]) (by simp [results, Tryz.results34, go_sem, Gf]) rfl ⟨_, _, _, rfl, of, Bf⟩

theorem chosen_mem (P : Nat → Bool) (k : Nat) : ∀ x ∈ chosen P k, 0 ≤ x ∧ x < (k : Int) := by
  intro x hx
  unfold chosen at hx
  obtain ⟨y, hy, rfl⟩ := List.mem_map.1 hx
  have := List.mem_range.1 (List.mem_filter.1 hy).1
  exact ⟨Int.natCast_nonneg _, by show (y : Int) < k; omega⟩
theorem chosen_asc (P : Nat → Bool) (k : Nat) : (chosen P k).Pairwise (· < ·) := by
  induction k with
  | zero => simp [chosen]
  | succ k ih =>
    rw [chosen_succ]
    split
    · rw [List.pairwise_append]
      refine ⟨ih, by simp, fun a ha b hb => ?_⟩
      simp only [List.mem_singleton] at hb
      have := chosen_mem P k a ha
      omega
    · exact ih
theorem chosen_fam (P : Nat → Bool) (g : Nat) (hg : g ≤ 6) : isFamB g (chosen P (2 ^ g)) = true := by
  unfold isFamB areSetsB ascB
  have h1 : inB (g : Int) 0 6 = true := inB_true.2 ⟨by omega, by omega⟩
  rw [h1, decide_eq_true (chosen_asc P _)]
  simp only [Bool.true_and, Bool.and_true, List.all_eq_true]
  intro x hx
  have := chosen_mem P _ x hx
  have e : ((2 ^ g : Nat) : Int) = (2 : Int) ^ g := by push_cast; rfl
  refine isSet_true.2 ⟨this.1, ?_⟩
  have e2 : (g : Int).toNat = g := by omega
  rw [e2, ← e]; exact this.2
theorem minL_mem {l : List Int} {x : Int} (h : x ∈ minL l) : x ∈ l := (List.mem_filter.1 h).1
theorem minL_len (l : List Int) : (minL l).length ≤ l.length := List.length_filter_le _ _

def blkAll (g : Nat) (l : List Int) : List Int := chosen (fun s => meetB l (s : Int)) (2 ^ g)
def blkN (g : Int) (l : List Int) : Int := if isFamB g l then g else 0
def blkL (g : Int) (l : List Int) : List Int := if isFamB g l then minL (blkAll g.toNat l) else []
theorem blkAll_bd (g : Nat) (hg : g ≤ 6) (l : List Int) : (∀ x ∈ blkAll g l, 0 ≤ x ∧ x < 64) ∧ (blkAll g l).length ≤ 64 := by
  have hp : (2 : Nat) ^ g ≤ 2 ^ 6 := Nat.pow_le_pow_right (by decide) hg
  refine ⟨fun x hx => ?_, ?_⟩
  · have := chosen_mem _ _ x hx
    have h : ((2 ^ g : Nat) : Int) ≤ 64 := by exact_mod_cast hp
    omega
  · have := chosen_len (fun s => meetB l (s : Int)) (2 ^ g)
    unfold blkAll; omega
theorem blkL_len (g : Int) (l : List Int) : (blkL g l).length ≤ 64 := by
  unfold blkL
  split
  · rename_i h
    obtain ⟨h0, h6, _⟩ := famOk h
    exact Nat.le_trans (minL_len _) (blkAll_bd g.toNat (by omega) l).2
  · simp
theorem blkL_bd (g : Int) (l : List Int) : ∀ x ∈ blkL g l, 0 ≤ x ∧ x < 64 := by
  unfold blkL
  split
  · rename_i h
    obtain ⟨h0, h6, _⟩ := famOk h
    exact fun x hx => (blkAll_bd g.toNat (by omega) l).1 x (minL_mem hx)
  · simp

theorem blkClosure (w : World) (g s : Nat) (l : List Int) (v : Value) (hv : Ints w v l) (d : w.cell? ⟨g, 1, none⟩ = some v) (hs : s < 64) (hm : ∀ x ∈ l, 0 ≤ x ∧ x < 64) :
    Calls Tryz.prog 150 #[.int .i64 (s : Int), .pointer (some ⟨g, 0, none⟩)] w fun e w' => e = .returned (.bool (meetB l s)) ∧ Below w.heap.size w w' := by
  obtain ⟨a, c, rfl⟩ := hv.shape
  have hcl := meetsAll_any l _ (s : Int) w hv hm (by omega) (by omega)
  clear hm
  go_enter Tryz.func150, Tryz.ntmps150
  go_wp2_with (go_at_call 151; refine hcl.mono ?_; rintro e w' ⟨rfl, rfl⟩)
  go_ret
  exact ⟨rfl, Below.refl _ _⟩
theorem blkClosure_enters : ∀ args w, (callFunc 150 args).run Tryz.prog w = .ok (.enter 150 args) w := enters_of Tryz.func150 (by kernel_rfl) rfl

set_option maxHeartbeats 1000000 in
set_option maxRecDepth 100000 in
theorem blockerI_c (w : World) (g : Int) (v : Value) (l : List Int) (hv : Ints w v l) (_ : l.length ≤ 1048576) :
    Calls Tryz.prog 33 #[.agg #[.int .i64 g, v]] w fun e w' => ∃ ad i cp, e = .returned (.tuple #[.agg #[.int .i64 (blkN g l), .slice ad i cp], .bool (isFamB g l)]) ∧ OwnI 3 w.heap.size w' (.slice ad i cp) (blkL g l) ∧ Below w.heap.size w w' := by
  obtain ⟨a, c, rfl⟩ := hv.shape
  go_enter Tryz.func33, Tryz.ntmps33
  go_wp2_with fail
  refine calls_named ?_
  intro V hV
  have B : Below w.heap.size w V := by rw [hV]; exact bl2 _ _ _
  have K1 : Blk V w.heap.size 27 #[.int .i64 g, .slice a l.length c] := by rw [hV]; exact (Blk.new _ _ _).alloc _
  have K2 : Blk V (w.heap.size + 1) 27 #[.int .i64 0, .slice none 0 0] := by rw [hV]; have := Blk.new (w.alloc (.cells #[.int .i64 g, .slice a l.length c] 27)) 27 #[.int .i64 0, .slice none 0 0]; simpa using this
  clear hV
  refine (isFamI_any g l _ _ (hv.below B (Nat.le_refl _))).mono ?_
  rintro e w1 ⟨rfl, hb1⟩
  have K1' := K1.keep hb1
  have K2' := K2.keep hb1
  have B1 := B.after hb1 B.size
  have G1 := K1'.cell
  have G2 := K2'.cell
  have F2 := K2'.frozen
  have z1 := K1'.lt
  have z2 := K2'.lt
  have hv1 := hv.below B1 (Nat.le_refl _)
  clear K1 K2 B hb1
  cases hf : isFamB g l with
  | false =>
    have hN : blkN g l = 0 := by unfold blkN; rw [hf]; rfl
    have hL : blkL g l = [] := by unfold blkL; rw [hf]; rfl
    have HN := Lib.hid hN
    have HL := Lib.hid hL
    have HF := Lib.hid hf
    clear hN hL
    go_wp2
    refine post_named ?_
    intro Wf hWf
    have K2f : Blk Wf (w.heap.size + 1) 27 #[.int .i64 0, .slice none 0 0] := by
      rw [hWf]
      have := (K2'.set 0 (.int .i64 0)).set 1 (.slice none 0 0)
      simpa using this
    have Bf : Below w.heap.size w Wf := by rw [hWf]; exact Below.setCell (Below.setCell B1 (by first | omega | (simp; done) | (simp; omega)) _) (by first | omega | (simp; done) | (simp; omega)) _
    have Gf := K2f.cell
    clear hWf G1 G2 F2
    exact bodyPost_ret (v := .tuple #[.agg #[.int .i64 0, .slice none 0 0], .bool false]) (by simp [results, Tryz.results33, go_sem, Gf]) rfl ⟨none, 0, 0, by rw [HN.out, HF.out], by rw [HL.out]; exact OwnI.nil _ _ _, Bf⟩
  | true =>
    obtain ⟨h0, h6, _⟩ := famOk hf
    have hm := fam_mem hf
    obtain ⟨n, rfl⟩ := Int.eq_ofNat_of_zero_le h0
    have hn : n ≤ 6 := by omega
    have hN : blkN n l = n := by unfold blkN; rw [hf]; rfl
    have hL : blkL n l = minL (blkAll n l) := by unfold blkL; rw [hf]; rfl
    have HN := Lib.hid hN
    have HL := Lib.hid hL
    have HF := Lib.hid hf
    have hbd := blkAll_bd n hn l
    have hpn : (2 : Nat) ^ n ≤ 64 := Nat.pow_le_pow_right (n := 2) (by decide) hn
    have hch : ∀ W, Ints W (.slice a l.length c) l → W.cell? ⟨w.heap.size, 1, none⟩ = some (.slice a l.length c) → Calls Tryz.prog 147 #[.int .i64 (n : Int), .func (.func 150) #[] #[.pointer (some ⟨w.heap.size, 0, none⟩)]] W fun e w' =>
        ∃ ad i cp, e = .returned (.agg #[.int .i64 (n : Int), .slice ad i cp]) ∧ OwnI 3 W.heap.size w' (.slice ad i cp) (blkAll n l) ∧ Below W.heap.size W w' := fun W hW hd =>
      choose_any W n hn 150 blkClosure_enters w.heap.size (fun s => meetB l (s : Int)) (fun s W' hs hB => blkClosure W' w.heap.size s l _ (hW.keep hB) (keep hB hd) (by omega) hm)
    have hms : ∀ (W : World) (ad : Option Addr) (i cp : Nat), Ints W (.slice ad i cp) (blkAll n l) → Calls Tryz.prog 34 #[.agg #[.int .i64 (n : Int), .slice ad i cp]] W fun e w' =>
        ∃ ad' i' cp', e = .returned (.tuple #[.agg #[.int .i64 (n : Int), .slice ad' i' cp'], .bool true]) ∧ OwnI 3 W.heap.size w' (.slice ad' i' cp') (minL (blkAll n l)) ∧ Below W.heap.size W w' := fun W ad i cp hW =>
      minSets_yes n _ _ W hW (by omega) (chosen_fam _ n hn)
    have HCH := Lib.hid hch
    have HMS := Lib.hid hms
    clear hN hL hbd hpn hch hms hm hf
    go_wp2_with fail
    refine (HCH.out _ hv1 (by rw [G1]; rfl)).mono ?_
    rintro e w3 ⟨p3, i3, q3, rfl, o3, hb3⟩
    have B3 := B1.after hb3 B1.size
    have K2 := K2'.keep hb3
    clear G1 G2 F2
    go_wp2_with fail
    refine (HMS.out _ p3 i3 q3 (o3.alloc _).ints).mono ?_
    rintro e w5 ⟨p5, i5, q5, rfl, o5, hb5⟩
    have b5 : Below w3.heap.size w3 w5 := (bl1 w3 _).after hb5 (by simp)
    have B5 := B3.after b5 B3.size
    have K2 := K2.keep b5
    have G2 := K2.cell
    have F2 := K2.frozen
    have z5 := K2.lt
    have y3 := B3.size
    have y1 := B1.size
    have z6 := hb3.size
    have z7 := b5.size
    go_wp2
    refine post_named ?_
    intro Wf hWf
    have K2f : Blk Wf (w.heap.size + 1) 27 #[.int .i64 n, .slice p5 i5 q5] := by
      rw [hWf]
      have := (K2.set 0 (.int .i64 n)).set 1 (.slice p5 i5 q5)
      simpa using this
    have Bf : Below w.heap.size w Wf := by rw [hWf]; exact Below.setCell (Below.setCell B5 (by first | omega | (simp; done) | (simp; omega)) _) (by first | omega | (simp; done) | (simp; omega)) _
    have of : OwnI 3 w.heap.size Wf (.slice p5 i5 q5) (minL (blkAll n l)) := by
      rw [hWf]
      have o5' := o5.mono (B' := w3.heap.size) (by simp)
      exact ((o5'.setBelow (by first | omega | (simp; done) | (simp; omega)) _).setBelow (by first | omega | (simp; done) | (simp; omega)) _).mono (by first | omega | (simp; done) | (simp; omega))
    have Gf := K2f.cell
    clear hWf G2 F2
    exact bodyPost_ret (v := .tuple #[.agg #[.int .i64 n, .slice p5 i5 q5], .bool true]) (by simp [results, Tryz.results33, go_sem, Gf]) rfl ⟨p5, i5, q5, by rw [HN.out, HF.out], by rw [HL.out]; exact of, Bf⟩

set_option maxHeartbeats 400000 in
theorem l20Meets_any (l : List Int) (v : Value) (s : Int) (w : World) (hv : Ints w v l) (hm : ∀ x ∈ l, 0 ≤ x ∧ x < 64) (h0 : 0 ≤ s) (h1 : s < 64) :
    Calls Tryz.prog 214 #[v, .int .i64 s] w fun e w' => e = .returned (.bool (meetB l s)) ∧ w = w' := by
  obtain ⟨a, b, off, c, rfl, hlen, hix, hc, hb⟩ := hv.view Tryz.prog 22 3 Tryz.underlying22 intElem
  go_enter Tryz.func214, Tryz.ntmps214
  go_wp2
  go_loop [5] (fun i => ∃ k : Nat, k ≤ l.length ∧ i = .int .i64 k ∧ (l.take k).all (fun t => iand t s != 0) = true) (fun i => l.length - (intOf i).toNat)
  case atStart => exact ⟨0, Nat.zero_le _, rfl, by simp⟩
  case round =>
    obtain ⟨k, hk, rfl, hall⟩ := hrel
    have H := Lib.hid hall
    clear hall
    by_cases hlt : k < l.length
    · have hlk := hm _ (List.getElem_mem hlt)
      have hA := iand_is hlk.1 (show l[k] < 4611686018427387904 by omega) h0 (by omega)
      by_cases hz : iand l[k] s = 0
      · have ht : (iand l[k] s == 0) = true := by simp [hz]
        have hp : (iand l[k] s != 0) = false := by simp [hz]
        have HP := Lib.hid hp
        clear hz hp
        go_wp2
        go_ret
        exact ⟨ret_bool (by unfold meetB; rw [all_false_at _ _ _ hlt HP.out]), rfl⟩
      · have ht : (iand l[k] s == 0) = false := by simp [hz]
        have hp : (iand l[k] s != 0) = true := by simp [hz]
        have HP := Lib.hid hp
        clear hz hp
        go_wp2
        go_round
        case rel => exact ⟨k + 1, by omega, by go_num, by rw [all_take_succ _ _ _ hlt, H.out, HP.out]; rfl⟩
        case measure => simp [intOf]; omega
    · go_wp2
      go_ret
      exact ⟨ret_bool (by unfold meetB; rw [← all_of_take _ l k (by omega), H.out]), rfl⟩

set_option maxHeartbeats 2000000 in
set_option maxRecDepth 100000 in
theorem blockerS_c (w : World) (g : Int) (v : Value) (l : List Int) (hv : Ints w v l) (_ : l.length ≤ 1048576) :
    Calls Tryz.prog 73 #[.agg #[.int .i64 g, v]] w fun e w' => ∃ ad i cp, e = .returned (.tuple #[.agg #[.int .i64 (blkN g l), .slice ad i cp], .bool (isFamB g l)]) ∧ OwnI 3 w.heap.size w' (.slice ad i cp) (blkL g l) ∧ Below w.heap.size w w' := by
  obtain ⟨a, c, rfl⟩ := hv.shape
  go_enter Tryz.func73, Tryz.ntmps73
  go_wp2_with fail
  refine calls_named ?_
  intro V hV
  have B : Below w.heap.size w V := by rw [hV]; exact bl2 _ _ _
  have K1 : Blk V w.heap.size 27 #[.int .i64 g, .slice a l.length c] := by rw [hV]; exact (Blk.new _ _ _).alloc _
  have K2 : Blk V (w.heap.size + 1) 27 #[.int .i64 0, .slice none 0 0] := by rw [hV]; have := Blk.new (w.alloc (.cells #[.int .i64 g, .slice a l.length c] 27)) 27 #[.int .i64 0, .slice none 0 0]; simpa using this
  clear hV
  refine (isFamS_any g l _ _ (hv.below B (Nat.le_refl _))).mono ?_
  rintro e w1 ⟨rfl, hb1⟩
  have K1' := K1.keep hb1
  have K2' := K2.keep hb1
  have B1 := B.after hb1 B.size
  have hv1 := hv.below B1 (Nat.le_refl _)
  clear K1 K2 B hb1
  cases hf : isFamB g l with
  | false =>
    have G1 := K1'.cell
    have G2 := K2'.cell
    have F2 := K2'.frozen
    have z2 := K2'.lt
    have hN : blkN g l = 0 := by unfold blkN; rw [hf]; rfl
    have hL : blkL g l = [] := by unfold blkL; rw [hf]; rfl
    have HN := Lib.hid hN
    have HL := Lib.hid hL
    have HF := Lib.hid hf
    clear hN hL
    go_wp2
    refine post_named ?_
    intro Wf hWf
    have K2f : Blk Wf (w.heap.size + 1) 27 #[.int .i64 0, .slice none 0 0] := by
      rw [hWf]
      have := (K2'.set 0 (.int .i64 0)).set 1 (.slice none 0 0)
      simpa using this
    have Bf : Below w.heap.size w Wf := by rw [hWf]; exact Below.setCell (Below.setCell B1 (by first | omega | (simp; done) | (simp; omega)) _) (by first | omega | (simp; done) | (simp; omega)) _
    have Gf := K2f.cell
    clear hWf G1 G2 F2
    exact bodyPost_ret (v := .tuple #[.agg #[.int .i64 0, .slice none 0 0], .bool false]) (by simp [results, Tryz.results73, go_sem, Gf]) rfl ⟨none, 0, 0, by rw [HN.out, HF.out], by rw [HL.out]; exact OwnI.nil _ _ _, Bf⟩
  | true =>
    obtain ⟨h0, h6, _⟩ := famOk hf
    have hm := fam_mem hf
    obtain ⟨n, rfl⟩ := Int.eq_ofNat_of_zero_le h0
    have hn : n ≤ 6 := by omega
    have hN : blkN n l = n := by unfold blkN; rw [hf]; rfl
    have hL : blkL n l = minL (blkAll n l) := by unfold blkL; rw [hf]; rfl
    have HN := Lib.hid hN
    have HL := Lib.hid hL
    have HF := Lib.hid hf
    have HM := Lib.hid hm
    have hp := two_pow n 6 hn
    have hp1 : (2 : Int) ^ n ≤ 64 := by simpa using hp.1
    have hp2 := hp.2
    have hpi : ((2 ^ n : Nat) : Int) = (2 : Int) ^ n := by simp
    obtain ⟨N, hNN⟩ : ∃ N : Nat, N = 2 ^ n := ⟨_, rfl⟩
    obtain ⟨P, hP⟩ : ∃ P : Nat → Bool, P = fun s : Nat => meetB l (s : Int) := ⟨_, rfl⟩
    have hall : blkAll n l = chosen P N := by rw [hNN, hP]; rfl
    have hbd := blkAll_bd n hn l
    have hasc := chosen_asc P N
    have hmin := minTo_all (chosen P N) hasc (fun x hx => (chosen_mem P N x hx).1)
    rw [hall] at hbd
    have hN64 : N ≤ 64 := by rw [hNN]; exact Nat.pow_le_pow_right (n := 2) (by decide) hn
    rw [← hNN] at hpi
    have HALL := Lib.hid hall
    have HBD := Lib.hid hbd
    have HMIN := Lib.hid hmin
    have HP := Lib.hid hP
    have HPI := Lib.hid hpi
    have G1 := K1'.cell
    have z1 := K1'.lt
    have z2 := K2'.lt
    have o0 := OwnI.lit0 (E := 3) (B := w1.heap.size) w1 (Nat.le_refl _)
    clear hN hL hall hbd hmin hasc hm hf hp hNN hP hpi
    go_wp2_with fail
    go_loopw [4, 5] (fun out i wr => ∃ (k : Nat) (ad : Option Addr) (nn cp : Nat), k ≤ N ∧ out = .slice ad nn cp ∧ i = .int .i64 k ∧ OwnI 3 w1.heap.size wr (.slice ad nn cp) (chosen P k) ∧ Below w1.heap.size w1 wr)
      (fun _ i _ => N - (intOf i).toNat)
    case atStart => exact ⟨0, _, _, _, Nat.zero_le _, rfl, rfl, o0, bl1 _ _⟩
    case round =>
      obtain ⟨k, ad, nn, cp, hk, rfl, rfl, ho, B⟩ := hrel
      have HO := Lib.hid ho
      clear ho o0 G1
      have G1 := (K1'.keep B).cell
      have zw := B.size
      by_cases hlt : k < N
      · have hlt2 : (k : Int) < 2 ^ n := by rw [← HPI.out]; exact_mod_cast hlt
        have hcs := chosen_succ P k
        have hmt : ∀ W, Ints W (.slice a l.length c) l → Calls Tryz.prog 214 #[.slice a l.length c, .int .i64 (k : Int)] W fun e w' => e = .returned (.bool (P k)) ∧ W = w' := fun W hW => by
          rw [HP.out]; exact l20Meets_any l _ k W hW HM.out (by omega) (by omega)
        have hlk : (chosen P k).length ≤ 64 := Nat.le_trans (chosen_len P k) (by omega)
        have HCS := Lib.hid hcs
        have HMT := Lib.hid hmt
        clear hcs hmt
        cases hPk : P k with
        | false =>
          have HPK := Lib.hid hPk
          clear hPk
          go_wp2_with (go_at_call 214; refine (HMT.out _ (hv1.below B (Nat.le_refl _))).mono ?_; rintro e w' ⟨rfl, rfl⟩; rw [HPK.out])
          go_roundw
          case rel => exact ⟨k + 1, ad, nn, cp, by omega, rfl, by go_num, by rw [HCS.out, HPK.out]; exact HO.out, B⟩
          case measure => simp [intOf]; omega
        | true =>
          have HPK := Lib.hid hPk
          clear hPk
          go_wp2_with (first
            | (go_at_call 214; refine (HMT.out _ (hv1.below B (Nat.le_refl _))).mono ?_; rintro e w' ⟨rfl, rfl⟩; rw [HPK.out])
            | (at_builtin; refine wpList_appendI rfl _ _ _ rfl 3 Tryz.underlying22 intElem w1.heap.size _ _ (k : Int) wr.heap.size rfl rfl (cell_new wr #[.int .i64 k] 3 0 _ rfl) (HO.out.alloc _) ⟨by omega, by omega⟩ (by omega) (by first | omega | (simp; done) | (simp; omega)) ?_; intro v' w6 hown hgr; obtain ⟨av, nv, cv, rfl⟩ := hown.shape3))
          have B6 : Below w1.heap.size w1 w6 := (B.alloc B.size (.cells #[.int .i64 k] 3)).grown hgr (by simp; omega) (fun q hq => (HO.out.lt q hq).1)
          go_roundw
          case rel => exact ⟨k + 1, av, nv, cv, by omega, rfl, by go_num, by rw [HCS.out, HPK.out]; exact hown, B6⟩
          case measure => simp [intOf]; omega
      · have hlt2 : ¬ (k : Int) < 2 ^ n := by rw [← HPI.out]; exact_mod_cast hlt
        have hkN : k = N := by omega
        subst hkN
        have hml : ∀ (W : World), Ints W (.slice ad nn cp) (chosen P k) → Calls Tryz.prog 215 #[.slice ad nn cp] W fun e w' =>
            ∃ ad' i' cp', e = .returned (.slice ad' i' cp') ∧ OwnI 3 W.heap.size w' (.slice ad' i' cp') (minL (chosen P k)) ∧ Below W.heap.size W w' := fun W hW => by
          have := l15Minimal_any (chosen P k) _ W hW HBD.out.1 HBD.out.2
          rw [HMIN.out] at this
          exact this
        have HML := Lib.hid hml
        have K2'' := K2'.keep B
        have y2 := K2''.lt
        have hoI := HO.out.ints
        have z1r : w.heap.size < wr.heap.size := by omega
        clear hml
        go_wp2_with fail
        have G2 := K2''.cell
        have F2 := K2''.frozen
        go_region_held3 (fun w' => (∀ i, w'.cell? ⟨w.heap.size, i, none⟩ = (#[.int .i64 n, .slice a l.length c] : Array Value)[i]?)) (go_keep)
          (first
            | (go_at_call 215; refine (HML.out _ (hoI.below (B := wr.heap.size) (by repeat (first | exact Below.refl _ _ | (with_reducible refine Below.setCell ?_ (by first | omega | (simp; done) | (simp; omega)) _) | (with_reducible refine Below.alloc ?_ (by first | omega | (simp; done) | (simp; omega)) _) | (with_reducible refine Below.drewN' ?_ _) | (with_reducible refine Below.drew ?_) | (with_reducible assumption) | refine Below.trans ?_ (Below.mono (by assumption) (by first | omega | (simp; done) | (simp; omega))))) (Nat.le_refl _))).mono ?_; rintro e w3 ⟨p3, i3, q3, rfl, o3, hb3⟩; obtain ⟨hc3, hf3⟩ := bcellN hb3 wr.heap.size (by first | omega | (simp; done) | (simp; omega)); have z3 := hb3.size; (try simp at z3)))
        go_wp2
        refine post_named ?_
        intro Wf hWf
        have K2f : Blk Wf (w.heap.size + 1) 27 #[.int .i64 n, .slice p3 i3 q3] := by
          rw [hWf]
          have := (((K2''.drewN 1).keep hb3).set 0 (.int .i64 n)).set 1 (.slice p3 i3 q3)
          simpa using this
        have yy := B1.size
        have Bf : Below w.heap.size w Wf := by rw [hWf]; exact Below.setCell (Below.setCell (((B1.after B B1.size).drewN' 1).after hb3 (by first | omega | (simp; done) | (simp; omega))) (by first | omega | (simp; done) | (simp; omega)) _) (by first | omega | (simp; done) | (simp; omega)) _
        have of : OwnI 3 w.heap.size Wf (.slice p3 i3 q3) (minL (chosen P k)) := by rw [hWf]; exact ((o3.setBelow (by first | omega | (simp; done) | (simp; omega)) _).setBelow (by first | omega | (simp; done) | (simp; omega)) _).mono (by first | omega | (simp; done) | (simp; omega))
        have Gf := K2f.cell
        clear hWf G1 G2 F2 hc3 hf3
        exact bodyPost_ret (v := .tuple #[.agg #[.int .i64 n, .slice p3 i3 q3], .bool true]) (by simp [results, Tryz.results73, go_sem, Gf]) rfl ⟨p3, i3, q3, by rw [HN.out, HF.out], by rw [HL.out, HALL.out]; exact of, Bf⟩
end Go.Proofs.YtipejodijbjpcaaGreatDoor
end
