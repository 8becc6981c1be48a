/- Modular functions: the first program. -/
import Derived.Test.YtmlpcohailjccaaFom2
import Derived.Test.YtmlpcohailjccaaApp
import Derived.Test.YtmlpcohailjccaaBlk
namespace Go.Proofs.Ytmlpcohailjccaa
open Go.RowKit Go.G5

def modF (x : List Int) (c : Int) (s : Nat) : Int := c + wt x (s : Int)
def modG (x : List Int) (c : Int) : Bool := (decide (x.length ≤ 5) && allIn x (-1000) 1000) && inB c (-1000) 1000
def modB (x : List Int) (c : Int) : Bool := modG x c && isFunB x.length (madeL (modF x c) (2 ^ x.length))
def modN (x : List Int) (c : Int) : Int := if modB x c then (x.length : Int) else 0
def modL (x : List Int) (c : Int) : List Int := if modB x c then madeL (modF x c) (2 ^ x.length) else []
theorem modG_true {x : List Int} {c : Int} (h : modG x c = true) : x.length ≤ 5 ∧ (∀ k, (hk : k < x.length) → -1000 ≤ x[k] ∧ x[k] ≤ 1000) ∧ -1000 ≤ c ∧ c ≤ 1000 := by
  unfold modG allIn at h
  simp only [Bool.and_eq_true, List.all_eq_true, decide_eq_true_eq] at h
  obtain ⟨⟨h1, h2⟩, h3⟩ := h
  have := inB_true.1 h3
  exact ⟨h1, fun k hk => inB_true.1 (h2 _ (List.getElem_mem hk)), this.1, this.2⟩
theorem mod_wt_bd {x : List Int} {c : Int} (h : modG x c = true) (s : Int) : -5000000 ≤ wt x s ∧ wt x s ≤ 5000000 := by
  obtain ⟨h1, h2, _⟩ := modG_true h
  have := wtTo_bd x s (fun k hk => by have := h2 k hk; omega) x.length (Nat.le_refl _)
  unfold wt
  omega
set_option maxHeartbeats 1000000 in
set_option maxRecDepth 100000 in
theorem modClosure (W : World) (x : List Int) (c : Int) (v : Value) (g g' s : Nat) (h : modG x c = true) (hv : Ints W v x) (hs : s < 1073741824) (c0 : W.cell? ⟨g, 0, none⟩ = some (.int .i64 c)) (c1 : W.cell? ⟨g', 0, none⟩ = some v) :
    Calls Try.prog 147 #[.int .i64 (s : Int), .pointer (some ⟨g, 0, none⟩), .pointer (some ⟨g', 0, none⟩)] W fun e w' => e = .returned (.int .i64 (modF x c s)) ∧ Below W.heap.size W w' := by
  obtain ⟨h1, h2, h3, h4⟩ := modG_true h
  have hw := mod_wt_bd h (s : Int)
  obtain ⟨a, d, rfl⟩ := hv.shape
  have e0 : ∀ y : Ext W, y.w.cell? ⟨g, 0, none⟩ = some (.int .i64 c) := fun y => y.cell c0
  have e1 : ∀ y : Ext W, y.w.cell? ⟨g', 0, none⟩ = some (.slice a x.length d) := fun y => y.cell c1
  have HW := Lib.hid (fun y : Ext W => weightOf_any x (.slice a x.length d) (s : Int) y.w (y.ints hv) (by omega) (by omega) (fun k hk => by have := h2 k hk; omega) (by omega))
  have hm : modF x c s = c + wt x (s : Int) := rfl
  obtain ⟨q, hq⟩ : ∃ q, q = wt x (s : Int) := ⟨_, rfl⟩
  rw [← hq] at hw hm
  simp only [← hq] at HW
  have HM := Lib.hid hm
  clear hm hq h2
  go_enter Try.func147, Try.ntmps147
  go_wp2_with fail
  refine wp_region_ext _ (by kernel_rfl) (by kernel_rfl) ?_
  repeat (first | go_big_quiet_skip | (go_big_quiet_want; go_big_quiet_op; first | go_big_quiet_on | (apply Exists.intro; refine ⟨fun _ => ?_, ?_⟩; (go_at_call 148; exact ext_same (HW.out _)); go_big_quiet_on)))
  refine wpQuiet_nil ?_
  rintro w3 ⟨⟨w3, hb3⟩, rfl⟩
  try dsimp only
  go_wp2
  go_ret
  exact ⟨ret_int HM.out.symm, hb3⟩
theorem modClosure_enters : ∀ args w, (callFunc 147 args).run Try.prog w = .ok (.enter 147 args) w := enters_of Try.func147 (by kernel_rfl) rfl

set_option maxHeartbeats 2000000 in
set_option maxRecDepth 100000 in
theorem modI_c (w : World) (v : Value) (x : List Int) (hv : Ints w v x) (c : Int) :
    Calls Try.prog 85 #[v, .int .i64 c] w fun e w' => ∃ ad i cp, e = .returned (.tuple #[.agg #[.int .i64 (modN x c), .slice ad i cp], .bool (modB x c)]) ∧ OwnI 3 w.heap.size w' (.slice ad i cp) (modL x c) ∧ Below w.heap.size w w' := by
  obtain ⟨a, d, rfl⟩ := hv.shape
  have hmf : ∀ (fn : Fn) (first cap : Array Value) (w : World), (Instr.makeFunc fn first cap).run Try.prog w = .ok (.func fn first cap) w := fun _ _ _ _ => rfl
  have hno : modG x c = false → modN x c = 0 ∧ modL x c = [] ∧ modB x c = false := fun h => by
    have hb : modB x c = false := by unfold modB; rw [h]; rfl
    exact ⟨by unfold modN; rw [hb]; rfl, by unfold modL; rw [hb]; rfl, hb⟩
  obtain ⟨V, hV⟩ : ∃ V, V = ((w.alloc (.cells #[.slice a x.length d] 22)).alloc (.cells #[.int .i64 c] 3)).alloc (.cells #[.int .i64 0, .slice none 0 0] 26) := ⟨_, rfl⟩
  have B : Below w.heap.size w V := by rw [hV]; exact bl3 _ _ _ _
  have K1 : Blk V w.heap.size 22 #[.slice a x.length d] := by rw [hV]; exact ((Blk.new _ _ _).alloc _).alloc _
  have K2 : Blk V (w.heap.size + 1) 3 #[.int .i64 c] := by rw [hV]; have := (Blk.new (w.alloc (.cells #[.slice a x.length d] 22)) 3 #[.int .i64 c]).alloc (.cells #[.int .i64 0, .slice none 0 0] 26); simpa using this
  have K3 : Blk V (w.heap.size + 1 + 1) 26 #[.int .i64 0, .slice none 0 0] := by rw [hV]; have := Blk.new ((w.alloc (.cells #[.slice a x.length d] 22)).alloc (.cells #[.int .i64 c] 3)) 26 #[.int .i64 0, .slice none 0 0]; simpa using this
  have hv1 := hv.below B (Nat.le_refl _)
  have G1 := K1.cell
  have G2 := K2.cell
  have G3 := K3.cell
  have F3 := K3.frozen
  have z3 := K3.lt
  by_cases h5 : x.length ≤ 5
  · have h5i : ¬ (5 : Int) < (x.length : Int) := by omega
    have HAW := Lib.hid (areWithin_any x _ (-1000) 1000 V hv1)
    have HIN := Lib.hid (within_any c (-1000) 1000 V)
    cases ha : allIn x (-1000) 1000 with
    | false =>
      have H := Lib.hid (hno (by unfold modG; rw [ha]; simp))
      rw [ha] at HAW
      clear ha hno
      go_enter Try.func85, Try.ntmps85
      go_wp2_with fail
      rw [← hV]
      clear hV
      refine HAW.out.mono ?_
      rintro e w1 ⟨rfl, rfl⟩
      go_wp2
      refine post_named ?_
      intro Wf hWf
      have K3f : Blk Wf (w.heap.size + 1 + 1) 26 #[.int .i64 0, .slice none 0 0] := by
        rw [hWf]
        first
          | exact K3
          | (have := (K3.set 0 (.int .i64 0)).set 1 (.slice none 0 0); simpa using this)
      have hg : V.grownBy Wf (some (w.heap.size + 1 + 1)) := by
        rw [hWf]
        first
          | exact World.grownBy.refl _ _
          | exact grow_set (grow_set (World.grownBy.refl _ _) 0 _) 1 _
      have Bf : Below w.heap.size w Wf := B.grown hg B.size (fun q hq => by have := Option.some.inj hq; omega)
      have Gf := K3f.cell
      clear hWf
      exact bodyPost_ret (v := .tuple #[.agg #[.int .i64 0, .slice none 0 0], .bool false]) (by simp [results, Try.results85, go_sem, Gf]) rfl ⟨none, 0, 0, by rw [H.out.1, H.out.2.2], by rw [H.out.2.1]; exact OwnI.nil _ _ _, Bf⟩
    | true =>
      rw [ha] at HAW
      cases hi : inB c (-1000) 1000 with
      | false =>
        have H := Lib.hid (hno (by unfold modG; rw [hi]; simp))
        rw [hi] at HIN
        clear ha hi hno
        go_enter Try.func85, Try.ntmps85
        go_wp2_with fail
        rw [← hV]
        clear hV
        refine HAW.out.mono ?_
        rintro e w1 ⟨rfl, rfl⟩
        go_wp2_with fail
        refine HIN.out.mono ?_
        rintro e w1 ⟨rfl, rfl⟩
        go_wp2
        refine post_named ?_
        intro Wf hWf
        have K3f : Blk Wf (w.heap.size + 1 + 1) 26 #[.int .i64 0, .slice none 0 0] := by
          rw [hWf]
          first
            | exact K3
            | (have := (K3.set 0 (.int .i64 0)).set 1 (.slice none 0 0); simpa using this)
        have hg : V.grownBy Wf (some (w.heap.size + 1 + 1)) := by
          rw [hWf]
          first
            | exact World.grownBy.refl _ _
            | exact grow_set (grow_set (World.grownBy.refl _ _) 0 _) 1 _
        have Bf : Below w.heap.size w Wf := B.grown hg B.size (fun q hq => by have := Option.some.inj hq; omega)
        have Gf := K3f.cell
        clear hWf
        exact bodyPost_ret (v := .tuple #[.agg #[.int .i64 0, .slice none 0 0], .bool false]) (by simp [results, Try.results85, go_sem, Gf]) rfl ⟨none, 0, 0, by rw [H.out.1, H.out.2.2], by rw [H.out.2.1]; exact OwnI.nil _ _ _, Bf⟩
      | true =>
        have hG : modG x c = true := by unfold modG; rw [ha, hi, decide_eq_true h5]; rfl
        rw [hi] at HIN
        have hmk := makeFunction2_any V x.length h5 147 modClosure_enters (w.heap.size + 1) w.heap.size (modF x c)
          (fun s hs => by have h1 := mod_wt_bd hG (s : Int); have h2 := (modG_true hG).2.2; unfold modF; exact ⟨by omega, by omega⟩)
          (fun s W' hs hB => modClosure W' x c (.slice a x.length d) (w.heap.size + 1) w.heap.size s hG (hv1.keep hB) (by have : (2 : Nat) ^ x.length ≤ 2 ^ 5 := Nat.pow_le_pow_right (by decide) h5; omega) (keep hB (G2 0)) (keep hB (G1 0)))
        have hB : modB x c = isFunB x.length (madeL (modF x c) (2 ^ x.length)) := by unfold modB; rw [hG]; rfl
        have hN : modN x c = if isFunB x.length (madeL (modF x c) (2 ^ x.length)) then (x.length : Int) else 0 := by unfold modN; rw [hB]
        have hL : modL x c = if isFunB x.length (madeL (modF x c) (2 ^ x.length)) then madeL (modF x c) (2 ^ x.length) else [] := by unfold modL; rw [hB]
        rw [← hN, ← hL, ← hB] at hmk
        have HMK := Lib.hid hmk
        clear ha hi hno hmk hB hN hL
        go_enter Try.func85, Try.ntmps85
        go_wp2_with fail
        rw [← hV]
        clear hV
        refine HAW.out.mono ?_
        rintro e w1 ⟨rfl, rfl⟩
        go_wp2_with fail
        refine HIN.out.mono ?_
        rintro e w1 ⟨rfl, rfl⟩
        go_wp2_with fail
        refine HMK.out.mono ?_
        rintro e w4 ⟨p4, i4, q4, rfl, o4, b4⟩
        have K3 := K3.keep b4
        have B4 := B.after b4 B.size
        have ro := o4.lt
        clear G3 F3
        have G3 := K3.cell
        have F3 := K3.frozen
        go_wp2
        refine post_named ?_
        intro Wf hWf
        have K3f : Blk Wf (w.heap.size + 1 + 1) 26 #[.int .i64 (modN x c), .slice p4 i4 q4] := by
          rw [hWf]
          have := (K3.set 0 (.int .i64 (modN x c))).set 1 (.slice p4 i4 q4)
          simpa using this
        have hg : w4.grownBy Wf (some (w.heap.size + 1 + 1)) := by rw [hWf]; exact grow_set (grow_set (World.grownBy.refl _ _) 0 _) 1 _
        have Bf : Below w.heap.size w Wf := B4.grown hg B4.size (fun q hq => by have := Option.some.inj hq; omega)
        have of := (o4.grow hg (fun q hq e => by have := Option.some.inj hq; have := (ro _ e).1; omega)).mono (B' := w.heap.size) B.size
        have Gf := K3f.cell
        clear hWf
        exact bodyPost_ret (v := .tuple #[.agg #[.int .i64 (modN x c), .slice p4 i4 q4], .bool (modB x c)]) (by simp [results, Try.results85, go_sem, Gf]) rfl ⟨p4, i4, q4, rfl, of, Bf⟩
  · have h5i : (5 : Int) < (x.length : Int) := by omega
    have H := Lib.hid (hno (by unfold modG; rw [decide_eq_false h5]; rfl))
    clear hno
    go_enter Try.func85, Try.ntmps85
    go_wp2
    rw [← hV]
    clear hV
    refine post_named ?_
    intro Wf hWf
    have K3f : Blk Wf (w.heap.size + 1 + 1) 26 #[.int .i64 0, .slice none 0 0] := by
      rw [hWf]
      first
        | exact K3
        | (have := (K3.set 0 (.int .i64 0)).set 1 (.slice none 0 0); simpa using this)
    have hg : V.grownBy Wf (some (w.heap.size + 1 + 1)) := by
      rw [hWf]
      first
        | exact World.grownBy.refl _ _
        | exact grow_set (grow_set (World.grownBy.refl _ _) 0 _) 1 _
    have Bf : Below w.heap.size w Wf := B.grown hg B.size (fun q hq => by have := Option.some.inj hq; omega)
    have Gf := K3f.cell
    clear hWf
    exact bodyPost_ret (v := .tuple #[.agg #[.int .i64 0, .slice none 0 0], .bool false]) (by simp [results, Try.results85, go_sem, Gf]) rfl ⟨none, 0, 0, by rw [H.out.1, H.out.2.2], by rw [H.out.2.1]; exact OwnI.nil _ _ _, Bf⟩
end Go.Proofs.Ytmlpcohailjccaa
