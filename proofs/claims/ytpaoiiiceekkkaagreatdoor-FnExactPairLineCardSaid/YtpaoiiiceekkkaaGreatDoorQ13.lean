/- Violations: the first program's search. Games. -/
import Derived.Test.YtpaoiiiceekkkaaGreatDoorQ12
import Derived.Deep.RegionHeld3
section
namespace Go.Proofs.YtpaoiiiceekkkaaGreatDoor
open Go.RowKit Go.G5

def violRel (w : World) (ob : Nat) (n : Nat) (v : Value) (a : Option Tri) (W : World) : Prop :=
  Below w.heap.size w W ∧ Blk W w.heap.size 27 #[.int .i64 n, v] ∧ match a with
    | none => Blk W (ob) 22 #[.slice none 0 0]
    | some t => ∃ g, Blk W (ob) 22 #[.slice (some ⟨g, 0, none⟩) 3 3] ∧ OwnI 3 (ob + 1) W (.slice (some ⟨g, 0, none⟩) 3 3) (triL (some t))
theorem violRel_mono (w : World) (ob : Nat) (n : Nat) (v : Value) (a : Option Tri) (W W' : World) (h : violRel w ob n v a W) (hb : Below W.heap.size W W') : violRel w ob n v a W' := by
  obtain ⟨h1, h2, h3⟩ := h
  refine ⟨h1.after hb h1.size, h2.keep hb, ?_⟩
  cases a with
  | none => exact Blk.keep h3 hb
  | some t =>
    obtain ⟨g, k1, k2⟩ := h3
    exact ⟨g, k1.keep hb, k2.keep hb⟩
theorem OwnI.lit3 {E : TypeId} {B : Nat} (w : World) (hB : B ≤ w.heap.size) (x y z : Int) (hx : InR x) (hy : InR y) (hz : InR z) : OwnI E B (w.alloc (.cells #[.int .i64 x, .int .i64 y, .int .i64 z] E)) (.slice (some ⟨w.heap.size, 0, none⟩) 3 3) [x, y, z] :=
  ⟨World.ownsRow_lit w #[.int .i64 x, .int .i64 y, .int .i64 z] 3 hB (by decide) rfl, by
    intro q hq
    simp only [List.mem_cons, List.not_mem_nil, or_false] at hq
    rcases hq with rfl | rfl | rfl <;> assumption⟩
set_option maxHeartbeats 2000000 in
set_option maxRecDepth 100000 in
theorem violClosure (w : World) (ob : Nat) (hob : w.heap.size < ob) (n : Nat) (hn : n ≤ 5) (l : List Int) (v : Value) (hv : Ints w v l) (hl : l.length = 2 ^ n) (hlb : ∀ k, (hk : k < l.length) → -1000 ≤ l[k] ∧ l[k] ≤ 1000) (a : Option Tri) (s i k : Nat) (W : World) (hs : s < 2 ^ n) (hik : i < k) (hk : k < n) (hR : violRel w ob n v a W) :
    Calls Tryz.prog 109 #[.int .i64 s, .int .i64 i, .int .i64 k, .pointer (some ⟨w.heap.size, 0, none⟩), .pointer (some ⟨ob, 0, none⟩)] W fun e w' =>
      e = .returned (.bool (vstep l a (s, i, k)).2) ∧ violRel w ob n v (vstep l a (s, i, k)).1 w' ∧ GrownIn W w' (fun b => b = ob) := by
  obtain ⟨B, Kf, h3⟩ := hR
  have hp5 : (2 : Nat) ^ n ≤ 32 := Nat.pow_le_pow_right (n := 2) (by decide) hn
  have hex := excess_any n hn l v W (hv.below B (Nat.le_refl _)) hl hlb s i k hs (by omega) hk
  have hbad : badB l (s, i, k) = decide (0 < exL l s i k) := rfl
  have hbd := exL_bd n l hl hlb s i k hs (by omega) hk
  obtain ⟨av, cv, rfl⟩ := hv.shape
  obtain ⟨x, hx⟩ : ∃ x, x = exL l s i k := ⟨_, rfl⟩
  rw [← hx] at hex hbad hbd
  have hrs : InR (s : Int) := ⟨by omega, by omega⟩
  have hri : InR (i : Int) := ⟨by omega, by omega⟩
  have hrk : InR (k : Int) := ⟨by omega, by omega⟩
  have G1 := Kf.cell
  have yB := B.size
  have HEX := Lib.hid hex
  have hsi : s < 32 := by omega
  clear hl hlb hx hex hs
  by_cases hpos : 0 < x
  · have hb : badB l (s, i, k) = true := by rw [hbad]; exact decide_eq_true hpos
    have hst : vstep l a (s, i, k) = (some (s, i, k), false) := by unfold vstep; rw [if_pos hb]
    have HST := Lib.hid hst
    have Ko : ∃ u, Blk W (ob) 22 #[u] := by
      cases a with
      | none => exact ⟨_, h3⟩
      | some t => obtain ⟨g, k1, _⟩ := h3; exact ⟨_, k1⟩
    obtain ⟨u, Ko⟩ := Ko
    have zo := Ko.lt
    clear hbad hb hst h3
    go_enter Tryz.func109, Tryz.ntmps109
    go_wp2_with fail
    refine HEX.out.mono ?_
    rintro e w1 ⟨rfl, hb1⟩
    have Ko := Ko.keep hb1
    have Kf := Kf.keep hb1
    have B1 := B.after hb1 B.size
    have y1 := hb1.size
    have Go := Ko.cell
    have Fo := Ko.frozen
    have zo1 := Ko.lt
    clear G1
    go_wp2
    refine post_named ?_
    intro Wf hWf
    obtain ⟨W2, hW2⟩ : ∃ W2, W2 = w1.setCell ⟨ob, 0, none⟩ (.slice (some ⟨w1.heap.size, 0, none⟩) 3 3) := ⟨_, rfl⟩
    rw [← hW2] at hWf
    have hgf : w1.grownBy W2 (some (ob)) := by rw [hW2]; exact grow_set (World.grownBy.refl _ _) 0 _
    have hsz : W2.heap.size = w1.heap.size := by rw [hW2]; simp
    have KO : Blk W2 (ob) 22 #[.slice (some ⟨w1.heap.size, 0, none⟩) 3 3] := by
      rw [hW2]
      have := Ko.set 0 (.slice (some ⟨w1.heap.size, 0, none⟩) 3 3)
      simpa using this
    have KF := Kf.grow hgf (by intro h; have := Option.some.inj h; omega)
    have BF := B1.grown hgf B1.size (fun q hq => by have := Option.some.inj hq; omega)
    have ol := OwnI.lit3 (E := 3) (B := ob + 1) W2 (by omega) s i k hrs hri hrk
    rw [hsz] at ol
    have hgr := (GrownIn.of_below (P := fun b => b = ob) hb1).trans ((GrownIn.of_row hgf (fun q hq => (Option.some.inj hq).symm)).trans (GrownIn.of_below (bl1 W2 (.cells #[.int .i64 s, .int .i64 i, .int .i64 k] 3))))
    have KO := KO.alloc (.cells #[.int .i64 s, .int .i64 i, .int .i64 k] 3)
    have KF := KF.alloc (.cells #[.int .i64 s, .int .i64 i, .int .i64 k] 3)
    have BF := BF.alloc BF.size (.cells #[.int .i64 s, .int .i64 i, .int .i64 k] 3)
    rw [← hWf] at KO KF BF ol hgr
    clear hWf Go Fo
    go_ret
    refine ⟨by rw [HST.out]; rfl, ?_, hgr⟩
    rw [HST.out]
    exact ⟨BF, KF, _, KO, ol⟩
  · have hb : badB l (s, i, k) = false := by rw [hbad]; exact decide_eq_false hpos
    have hst : vstep l a (s, i, k) = (a, a.isNone) := by unfold vstep; rw [if_neg (by rw [hb]; simp)]
    have HST := Lib.hid hst
    clear hbad hb hst
    cases a with
    | none =>
      have Ko : Blk W (ob) 22 #[.slice none 0 0] := h3
      have zo := Ko.lt
      clear h3
      go_enter Tryz.func109, Tryz.ntmps109
      go_wp2_with fail
      refine HEX.out.mono ?_
      rintro e w1 ⟨rfl, hb1⟩
      have Ko := Ko.keep hb1
      have Go := Ko.cell
      clear G1
      go_wp2
      go_ret
      refine ⟨by rw [HST.out]; rfl, ?_, GrownIn.of_below hb1⟩
      rw [HST.out]
      exact ⟨B.after hb1 B.size, Kf.keep hb1, Ko⟩
    | some t =>
      obtain ⟨g, Ko, ow⟩ := h3
      have zo := Ko.lt
      go_enter Tryz.func109, Tryz.ntmps109
      go_wp2_with fail
      refine HEX.out.mono ?_
      rintro e w1 ⟨rfl, hb1⟩
      have Ko := Ko.keep hb1
      have Go := Ko.cell
      clear G1
      go_wp2
      go_ret
      refine ⟨by rw [HST.out]; rfl, ?_, GrownIn.of_below hb1⟩
      rw [HST.out]
      exact ⟨B.after hb1 B.size, Kf.keep hb1, g, Ko, ow.keep hb1⟩
theorem violClosure_enters : ∀ args w, (callFunc 109 args).run Tryz.prog w = .ok (.enter 109 args) w := enters_of Tryz.func109 (by kernel_rfl) rfl

set_option maxHeartbeats 2000000 in
set_option maxRecDepth 100000 in
theorem violI_c (w : World) (n : Int) (v : Value) (l : List Int) (hv : Ints w v l) (_ : l.length ≤ 1048576) :
    Calls Tryz.prog 23 #[.agg #[.int .i64 n, v]] w fun e w' => ∃ ad i cp, e = .returned (.tuple #[.slice ad i cp, .bool (violB n l)]) ∧ OwnW 3 w.heap.size w' (.slice ad i cp) (violL n l) ∧ Below w.heap.size w w' := by
  have hv0 := hv
  obtain ⟨a, c, rfl⟩ := hv.shape
  have hmf : ∀ (fn : Fn) (first cap : Array Value) (w : World), (Instr.makeFunc fn first cap).run Tryz.prog w = .ok (.func fn first cap) w := fun _ _ _ _ => rfl
  have K0 := Blk.new w 27 #[.int .i64 n, .slice a l.length c]
  cases hf : isFunB n l with
  | false =>
    have hr : violR n l = none := by unfold violR; rw [hf]; rfl
    have hB : violB n l = false := by unfold violB; rw [hr]; rfl
    have hL : violL n l = [] := by unfold violL; rw [hr]; rfl
    have H := Lib.hid (And.intro hB hL)
    have HF := Lib.hid hf
    clear hr hB hL hf
    go_enter Tryz.func23, Tryz.ntmps23
    go_wp2_with (go_at_call 70; refine (isFunI_any n l _ _ (hv0.alloc _)).mono ?_; rintro e w1 ⟨rfl, hb1⟩; rw [HF.out])
    go_ret2
    exact ⟨none, 0, 0, by rw [H.out.1]; rfl, by rw [H.out.2]; exact OwnW.nil _ _ _, (bl1 _ _).after hb1 (by simp)⟩
  | true =>
    obtain ⟨h0, h5, hlen, hlb⟩ := funOk hf
    obtain ⟨N, rfl⟩ := Int.eq_ofNat_of_zero_le h0
    have hN5 : N ≤ 5 := by omega
    have hl2 : l.length = 2 ^ N := by
      have e2 : (N : Int).toNat = N := by omega
      rw [e2] at hlen
      exact_mod_cast hlen
    have hr : violR N l = violT N l := by unfold violR; rw [hf]; rfl
    have hvis : ∀ ob V, w.heap.size < ob → violRel w ob N (.slice a l.length c) none V → Calls Tryz.prog 108 #[.agg #[.int .i64 N, .slice a l.length c], .func (.func 109) #[] #[.pointer (some ⟨w.heap.size, 0, none⟩), .pointer (some ⟨ob, 0, none⟩)]] V fun e w' =>
        e = .returned (.tuple #[]) ∧ violRel w ob N (.slice a l.length c) (violR N l) w' ∧ GrownIn V w' (fun b => b = ob) := fun ob V hob hV => by
      rw [hr]
      refine visitPairs_any N hN5 l _ hl2 109 violClosure_enters _ _ (vstep l) (violRel w ob N (.slice a l.length c)) _ (violRel_mono w ob N _) V ⟨a, c, rfl⟩ (fun b hb => by have := (hV.2.2 : Blk V ob 22 #[.slice none 0 0]).lt; omega) ?_ none hV
      intro a' s i k W hs hik hk _ _ hR _
      exact violClosure w ob hob N hN5 l _ hv0 hl2 hlb a' s i k W hs hik hk hR
    have HV := Lib.hid hvis
    have HF := Lib.hid hf
    clear hvis hr hf hlen hlb hl2
    go_enter Tryz.func23, Tryz.ntmps23
    go_wp2_with fail
    refine (isFunI_any N l _ _ (hv0.alloc _)).mono ?_
    rintro e w1 ⟨rfl, hb1⟩
    rw [HF.out]
    have K1 := K0.keep hb1
    have B1 : Below w.heap.size w w1 := (bl1 _ _).after hb1 (by simp)
    have G1 := K1.cell
    have z1 := K1.lt
    clear hb1 K0
    go_wp2_with fail
    have R0 : violRel w w1.heap.size N (.slice a l.length c) none (w1.alloc (.cells #[.slice none 0 0] 22)) := ⟨B1.alloc B1.size _, K1.alloc _, Blk.new _ _ _⟩
    refine (HV.out w1.heap.size _ z1 R0).mono ?_
    rintro e w2 ⟨rfl, ⟨B2, K2, hout⟩, hg2⟩
    clear G1 R0
    cases hR : violR N l with
    | none =>
      rw [hR] at hout
      have Ko : Blk w2 w1.heap.size 22 #[.slice none 0 0] := hout
      have hB : violB N l = false := by unfold violB; rw [hR]; rfl
      have hL : violL N l = [] := by unfold violL; rw [hR]; rfl
      have H := Lib.hid (And.intro hB hL)
      have Go := Ko.cell
      clear hout hR hB hL
      go_wp2_with fail
      go_quiet (fail)
      go_wp2
      go_ret2
      exact ⟨none, 0, 0, by rw [H.out.1]; rfl, by rw [H.out.2]; exact OwnW.nil _ _ _, B2.drewN' _⟩
    | some t =>
      rw [hR] at hout
      obtain ⟨g, Ko, ow⟩ := hout
      have hB : violB N l = true := by unfold violB; rw [hR]; rfl
      have hL : violL N l = triL (some t) := by unfold violL; rw [hR]
      have H := Lib.hid (And.intro hB hL)
      have Go := Ko.cell
      have y1 := B1.size
      clear hR hB hL
      go_wp2_with fail
      go_quiet (fail)
      go_wp2
      go_ret2
      exact ⟨some ⟨g, 0, none⟩, 3, 3, by rw [H.out.1]; rfl, by rw [H.out.2]; exact ((ow.toW.mono (by omega)).drewN _), B2.drewN' _⟩

set_option maxHeartbeats 1000000 in
theorem isSubI_any (n : Int) (l : List Int) (v : Value) (w : World) (hv : Ints w v l) (hl : l.length ≤ 1048576) :
    Calls Tryz.prog 25 #[.agg #[.int .i64 n, v]] w fun e w' => e = .returned (.bool (subB n l)) ∧ Below w.heap.size w w' := by
  have hv0 := hv
  obtain ⟨a, c, rfl⟩ := hv.shape
  have K0 := Blk.new w 27 #[.int .i64 n, .slice a l.length c]
  go_enter Tryz.func25, Tryz.ntmps25
  go_wp2_with fail
  refine (violI_c _ n _ l (hv0.alloc _) hl).mono ?_
  rintro e w1 ⟨p1, i1, q1, rfl, o1, hb1⟩
  have K1 := K0.keep hb1
  have B1 : Below w.heap.size w w1 := (bl1 _ _).after hb1 (by simp)
  have G1 := K1.cell
  go_wp2_with fail
  refine (isFunI_any n l _ _ (hv0.below B1 (Nat.le_refl _))).mono ?_
  rintro e w2 ⟨rfl, hb2⟩
  have B2 := B1.after hb2 B1.size
  cases hf : isFunB n l with
  | false =>
    have hx : subB n l = false := by unfold subB; rw [hf]; rfl
    have HX := Lib.hid hx
    clear hx hf
    go_wp2
    go_ret
    exact ⟨by rw [HX.out]; rfl, B2⟩
  | true =>
    have hx : subB n l = !violB n l := by unfold subB; rw [hf]; rfl
    have HX := Lib.hid hx
    clear hx hf
    go_wp2
    go_ret
    exact ⟨by rw [HX.out]; rfl, B2⟩
end Go.Proofs.YtpaoiiiceekkkaaGreatDoor
end
section
namespace Go.Proofs.YtpaoiiiceekkkaaGreatDoor
open Go.RowKit Go.G5

theorem l8Vector_any (x : List Int) (v : Value) (w : World) (hv : Ints w v x) :
    Calls Tryz.prog 235 #[v] w fun e w' => e = .returned (.bool (allIn x (-5000) 5000 && decide (x.length ≤ 5))) ∧ w = w' := by
  obtain ⟨a, b, off, c, rfl, hlen, hix, hc, hb⟩ := hv.view Tryz.prog 22 3 Tryz.underlying22 intElem
  go_enter Tryz.func235, Tryz.ntmps235
  go_wp2
  go_loop [3] (fun i => ∃ k : Nat, k ≤ x.length ∧ i = .int .i64 k ∧ (x.take k).all (fun x => inB x (-5000) 5000) = true) (fun i => x.length - (intOf i).toNat)
  case atStart => exact ⟨0, Nat.zero_le _, rfl, by simp⟩
  case round =>
    obtain ⟨k, hk, rfl, hall⟩ := hrel
    have H := Lib.hid hall
    clear hall
    by_cases hlt : k < x.length
    · cases hs : inB x[k] (-5000) 5000 with
      | true =>
        go_wp2_with (go_at_call 154; refine (l1In_any _ _ _ _).mono ?_; rintro e w' ⟨rfl, rfl⟩)
        go_round
        case rel => exact ⟨k + 1, by omega, by go_num, by rw [all_take_succ _ _ _ hlt, H.out, hs]; rfl⟩
        case measure => simp [intOf]; omega
      | false =>
        go_wp2_with (go_at_call 154; refine (l1In_any _ _ _ _).mono ?_; rintro e w' ⟨rfl, rfl⟩)
        go_ret
        exact ⟨ret_bool (by unfold allIn; rw [all_false_at _ _ _ hlt hs]; rfl), rfl⟩
    · have hx : allIn x (-5000) 5000 = true := by unfold allIn; rw [← all_of_take (fun x => inB x (-5000) 5000) x k (by omega), H.out]
      have HX := Lib.hid hx
      clear hx
      by_cases h5 : x.length ≤ 5
      · go_wp2
        go_ret
        exact ⟨ret_bool (by rw [HX.out]; simp; omega), rfl⟩
      · have h5' : decide ((x.length : Int) ≤ 5) = false := decide_eq_false (by omega)
        go_wp2
        go_ret
        exact ⟨ret_bool (by first | rfl | (rw [HX.out]; simp; omega)), rfl⟩

def isLongB (n : Int) (x : List Int) : Bool := decide ((x.length : Int) = n) && allIn x (-5000) 5000

theorem isLong_any (n : Int) (l : List Int) (v : Value) (x : List Int) (u : Value) (w : World) (hv : Ints w v l) (hu : Ints w u x) :
    Calls Tryz.prog 204 #[.agg #[.int .i64 n, v], u] w fun e w' => e = .returned (.bool (isLongB n x)) ∧ Below w.heap.size w w' := by
  obtain ⟨av, cv, rfl⟩ := hv.shape
  obtain ⟨au, cu, rfl⟩ := hu.shape
  by_cases hl : (x.length : Int) = n
  · have hx : isLongB n x = allIn x (-5000) 5000 := by unfold isLongB; rw [decide_eq_true hl]; rfl
    have ht : ((x.length : Int) == n) = true := by simp [hl]
    have HX := Lib.hid hx
    clear hx hl
    go_enter Tryz.func204, Tryz.ntmps204
    go_wp2_with (go_at_call 122; refine (areWithin_any x _ _ _ _ (hu.alloc _)).mono ?_; rintro e w' ⟨rfl, rfl⟩)
    go_ret
    exact ⟨by rw [HX.out]; rfl, bl1 _ _⟩
  · have hx : isLongB n x = false := by unfold isLongB; rw [decide_eq_false hl]; rfl
    have ht : ((x.length : Int) == n) = false := by simp [hl]
    have HX := Lib.hid hx
    clear hx hl
    go_enter Tryz.func204, Tryz.ntmps204
    go_wp2
    go_ret
    exact ⟨by rw [HX.out]; rfl, bl1 _ _⟩

theorem allOf_any (n : Int) (v : Value) (l : List Int) (w : World) (hv : Ints w v l) (h0 : 0 ≤ n) (h1 : n ≤ 40) :
    Calls Tryz.prog 119 #[.agg #[.int .i64 n, v]] w fun e w' => e = .returned (.int .i64 (2 ^ n.toNat - 1)) ∧ Below w.heap.size w w' := by
  obtain ⟨av, cv, rfl⟩ := hv.shape
  have h2 := two_pow n.toNat 40 (by omega)
  have h3 := h2.1
  have h4 := h2.2
  simp at h3
  clear h2
  go_enter Tryz.func119, Tryz.ntmps119
  go_wp2
  go_ret
  exact ⟨rfl, bl1 _ _⟩

/-- what a set's value has over its weight -/
def slackOf (l x : List Int) (s : Int) : Int := l.getD s.toNat 0 - wt x s

set_option maxHeartbeats 400000 in
theorem slack_any (n : Int) (l : List Int) (v : Value) (x : List Int) (u : Value) (s : Int) (w : World) (hv : Ints w v l) (hu : Ints w u x) (h0 : 0 ≤ s) (hs : s < l.length) (hll : l.length ≤ 64)
    (hlb : ∀ k, (hk : k < l.length) → -1000 ≤ l[k] ∧ l[k] ≤ 1000) (hx : ∀ k, (hk : k < x.length) → -5000 ≤ x[k] ∧ x[k] ≤ 5000) (hxl : x.length ≤ 6) :
    Calls Tryz.prog 118 #[.agg #[.int .i64 n, v], u, .int .i64 s] w fun e w' => e = .returned (.int .i64 (slackOf l x s)) ∧ Below w.heap.size w w' := by
  obtain ⟨a, b, off, c, rfl, hlen, hix, hc, hb⟩ := hv.view Tryz.prog 22 3 Tryz.underlying22 intElem
  obtain ⟨au, cu, rfl⟩ := hu.shape
  obtain ⟨k, rfl⟩ := Int.eq_ofNat_of_zero_le h0
  have hk : k < l.length := by omega
  have hck := cells_below hc hb (bl1 w (.cells #[.int .i64 n, .slice a l.length c] 27)) (Nat.le_refl _) k hk
  have hxk := hlb k hk
  have hw := wtTo_bd x k (fun j hj => by have := hx j hj; omega) x.length (Nat.le_refl _)
  have hw' : -6000000 ≤ wt x k ∧ wt x k ≤ 6000000 := by unfold wt; omega
  have hg : l.getD (k : Int).toNat 0 = l[k] := by simp [hk]
  have HG := Lib.hid hg
  clear hc hlb hw hg
  go_enter Tryz.func118, Tryz.ntmps118
  go_wp2
  go_quiet ((go_at_call 123; first | exact q_same2 (weightOf_any x _ _ _ ((hu.alloc _).drewN _) (by omega) (by omega) (fun j hj => by have := hx j hj; omega) (by omega)) | exact q_same (weightOf_any x _ _ _ ((hu.alloc _).drewN _) (by omega) (by omega) (fun j hj => by have := hx j hj; omega) (by omega))))
  go_wp2
  go_ret
  exact ⟨ret_int (by unfold slackOf; rw [HG.out]), (bl1 _ _).drewN' _⟩
/-! the core -/
def coreOkTo (l x : List Int) : Nat → Bool
  | 0 => true
  | k + 1 => coreOkTo l x k && decide (slackOf l x k ≤ 0)
def inCoreB (n : Int) (l x : List Int) : Bool :=
  isGrB n l && isLongB n x && coreOkTo l x l.length && (slackOf l x (2 ^ n.toNat - 1) == 0)
theorem coreOk_false (l x : List Int) (k : Nat) (h : 0 < slackOf l x k) : ∀ m, k < m → coreOkTo l x m = false := by
  intro m
  induction m with
  | zero => intro h; omega
  | succ m ih =>
    intro hm
    rw [coreOkTo]
    by_cases hkm : k < m
    · rw [ih hkm]; rfl
    · have : m = k := by omega
      subst this
      rw [decide_eq_false (by omega)]; simp

theorem longOk {n : Int} {x : List Int} (h : isLongB n x = true) : (x.length : Int) = n ∧ ∀ k, (hk : k < x.length) → -5000 ≤ x[k] ∧ x[k] ≤ 5000 := by
  unfold isLongB allIn at h
  simp only [Bool.and_eq_true, List.all_eq_true, decide_eq_true_eq] at h
  exact ⟨h.1, fun k hk => inB_true.1 (h.2 _ (List.getElem_mem hk))⟩
theorem grOk {n : Int} {l : List Int} (h : isGrB n l = true) : isFunB n l = true := by
  unfold isGrB at h
  simp only [Bool.and_eq_true] at h
  exact h.1
theorem wt_bd (x : List Int) (s : Int) (hx : ∀ k, (hk : k < x.length) → -5000 ≤ x[k] ∧ x[k] ≤ 5000) (hl : x.length ≤ 6) : -6000000 ≤ wt x s ∧ wt x s ≤ 6000000 := by
  have := wtTo_bd x s (fun k hk => by have := hx k hk; omega) x.length (Nat.le_refl _)
  unfold wt; omega

end Go.Proofs.YtpaoiiiceekkkaaGreatDoor
end
