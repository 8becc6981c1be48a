/- Violations: the first program's search. -/
import Derived.Test.YtpaoiiiceekkkaaDoorQ21
section
namespace Go.Proofs.YtpaoiiiceekkkaaDoor
open Go.RowKit Go.G5

def violRel (w : World) (ob : Nat) (n : Nat) (v : Value) (a : Option Tri) (W : World) : Prop :=
  Below w.heap.size w W ∧ Blk W w.heap.size 31 #[.int .i64 n, v] ∧ match a with
    | none => Blk W (ob) 22 #[.slice none 0 0]
    | some t => ∃ g, Blk W (ob) 22 #[.slice (some ⟨g, 0, none⟩) 3 3] ∧ OwnI 3 (ob + 1) W (.slice (some ⟨g, 0, none⟩) 3 3) (triL (some t))
theorem violRel_mono (w : World) (ob : Nat) (n : Nat) (v : Value) (a : Option Tri) (W W' : World) (h : violRel w ob n v a W) (hb : Below W.heap.size W W') : violRel w ob n v a W' := by
  obtain ⟨h1, h2, h3⟩ := h
  refine ⟨h1.after hb h1.size, h2.keep hb, ?_⟩
  cases a with
  | none => exact Blk.keep h3 hb
  | some t =>
    obtain ⟨g, k1, k2⟩ := h3
    exact ⟨g, k1.keep hb, k2.keep hb⟩
theorem OwnI.lit3 {E : TypeId} {B : Nat} (w : World) (hB : B ≤ w.heap.size) (x y z : Int) (hx : InR x) (hy : InR y) (hz : InR z) : OwnI E B (w.alloc (.cells #[.int .i64 x, .int .i64 y, .int .i64 z] E)) (.slice (some ⟨w.heap.size, 0, none⟩) 3 3) [x, y, z] :=
  ⟨World.ownsRow_lit w #[.int .i64 x, .int .i64 y, .int .i64 z] 3 hB (by decide) rfl, by
    intro q hq
    simp only [List.mem_cons, List.not_mem_nil, or_false] at hq
    rcases hq with rfl | rfl | rfl <;> assumption⟩
set_option maxHeartbeats 2000000 in
set_option maxRecDepth 100000 in
theorem violClosure (w : World) (ob : Nat) (hob : w.heap.size < ob) (n : Nat) (hn : n ≤ 5) (l : List Int) (v : Value) (hv : Ints w v l) (hl : l.length = 2 ^ n) (hlb : ∀ k, (hk : k < l.length) → -1000 ≤ l[k] ∧ l[k] ≤ 1000) (a : Option Tri) (s i k : Nat) (W : World) (hs : s < 2 ^ n) (hik : i < k) (hk : k < n) (hR : violRel w ob n v a W) :
    Calls Tryd.prog 178 #[.int .i64 s, .int .i64 i, .int .i64 k, .pointer (some ⟨w.heap.size, 0, none⟩), .pointer (some ⟨ob, 0, none⟩)] W fun e w' =>
      e = .returned (.bool (vstep l a (s, i, k)).2) ∧ violRel w ob n v (vstep l a (s, i, k)).1 w' ∧ GrownIn W w' (fun b => b = ob) := by
  obtain ⟨B, Kf, h3⟩ := hR
  have hp5 : (2 : Nat) ^ n ≤ 32 := Nat.pow_le_pow_right (n := 2) (by decide) hn
  have hex := excess_any n hn l v W (hv.below B (Nat.le_refl _)) hl hlb s i k hs (by omega) hk
  have hbad : badB l (s, i, k) = decide (0 < exL l s i k) := rfl
  have hbd := exL_bd n l hl hlb s i k hs (by omega) hk
  obtain ⟨av, cv, rfl⟩ := hv.shape
  obtain ⟨x, hx⟩ : ∃ x, x = exL l s i k := ⟨_, rfl⟩
  rw [← hx] at hex hbad hbd
  have hrs : InR (s : Int) := ⟨by omega, by omega⟩
  have hri : InR (i : Int) := ⟨by omega, by omega⟩
  have hrk : InR (k : Int) := ⟨by omega, by omega⟩
  have G1 := Kf.cell
  have yB := B.size
  have HEX := Lib.hid hex
  have hsi : s < 32 := by omega
  clear hl hlb hx hex hs
  by_cases hpos : 0 < x
  · have hb : badB l (s, i, k) = true := by rw [hbad]; exact decide_eq_true hpos
    have hst : vstep l a (s, i, k) = (some (s, i, k), false) := by unfold vstep; rw [if_pos hb]
    have HST := Lib.hid hst
    have Ko : ∃ u, Blk W (ob) 22 #[u] := by
      cases a with
      | none => exact ⟨_, h3⟩
      | some t => obtain ⟨g, k1, _⟩ := h3; exact ⟨_, k1⟩
    obtain ⟨u, Ko⟩ := Ko
    have zo := Ko.lt
    clear hbad hb hst h3
    go_enter Tryd.func178, Tryd.ntmps178
    go_wp2_with fail
    refine HEX.out.mono ?_
    rintro e w1 ⟨rfl, hb1⟩
    have Ko := Ko.keep hb1
    have Kf := Kf.keep hb1
    have B1 := B.after hb1 B.size
    have y1 := hb1.size
    have Go := Ko.cell
    have Fo := Ko.frozen
    have zo1 := Ko.lt
    clear G1
    go_wp2
    refine post_named ?_
    intro Wf hWf
    obtain ⟨W2, hW2⟩ : ∃ W2, W2 = w1.setCell ⟨ob, 0, none⟩ (.slice (some ⟨w1.heap.size, 0, none⟩) 3 3) := ⟨_, rfl⟩
    rw [← hW2] at hWf
    have hgf : w1.grownBy W2 (some (ob)) := by rw [hW2]; exact grow_set (World.grownBy.refl _ _) 0 _
    have hsz : W2.heap.size = w1.heap.size := by rw [hW2]; simp
    have KO : Blk W2 (ob) 22 #[.slice (some ⟨w1.heap.size, 0, none⟩) 3 3] := by
      rw [hW2]
      have := Ko.set 0 (.slice (some ⟨w1.heap.size, 0, none⟩) 3 3)
      simpa using this
    have KF := Kf.grow hgf (by intro h; have := Option.some.inj h; omega)
    have BF := B1.grown hgf B1.size (fun q hq => by have := Option.some.inj hq; omega)
    have ol := OwnI.lit3 (E := 3) (B := ob + 1) W2 (by omega) s i k hrs hri hrk
    rw [hsz] at ol
    have hgr := (GrownIn.of_below (P := fun b => b = ob) hb1).trans ((GrownIn.of_row hgf (fun q hq => (Option.some.inj hq).symm)).trans (GrownIn.of_below (bl1 W2 (.cells #[.int .i64 s, .int .i64 i, .int .i64 k] 3))))
    have KO := KO.alloc (.cells #[.int .i64 s, .int .i64 i, .int .i64 k] 3)
    have KF := KF.alloc (.cells #[.int .i64 s, .int .i64 i, .int .i64 k] 3)
    have BF := BF.alloc BF.size (.cells #[.int .i64 s, .int .i64 i, .int .i64 k] 3)
    rw [← hWf] at KO KF BF ol hgr
    clear hWf Go Fo
    go_ret
    refine ⟨by rw [HST.out]; rfl, ?_, hgr⟩
    rw [HST.out]
    exact ⟨BF, KF, _, KO, ol⟩
  · have hb : badB l (s, i, k) = false := by rw [hbad]; exact decide_eq_false hpos
    have hst : vstep l a (s, i, k) = (a, a.isNone) := by unfold vstep; rw [if_neg (by rw [hb]; simp)]
    have HST := Lib.hid hst
    clear hbad hb hst
    cases a with
    | none =>
      have Ko : Blk W (ob) 22 #[.slice none 0 0] := h3
      have zo := Ko.lt
      clear h3
      go_enter Tryd.func178, Tryd.ntmps178
      go_wp2_with fail
      refine HEX.out.mono ?_
      rintro e w1 ⟨rfl, hb1⟩
      have Ko := Ko.keep hb1
      have Go := Ko.cell
      clear G1
      go_wp2
      go_ret
      refine ⟨by rw [HST.out]; rfl, ?_, GrownIn.of_below hb1⟩
      rw [HST.out]
      exact ⟨B.after hb1 B.size, Kf.keep hb1, Ko⟩
    | some t =>
      obtain ⟨g, Ko, ow⟩ := h3
      have zo := Ko.lt
      go_enter Tryd.func178, Tryd.ntmps178
      go_wp2_with fail
      refine HEX.out.mono ?_
      rintro e w1 ⟨rfl, hb1⟩
      have Ko := Ko.keep hb1
      have Go := Ko.cell
      clear G1
      go_wp2
      go_ret
      refine ⟨by rw [HST.out]; rfl, ?_, GrownIn.of_below hb1⟩
      rw [HST.out]
      exact ⟨B.after hb1 B.size, Kf.keep hb1, g, Ko, ow.keep hb1⟩
theorem violClosure_enters : ∀ args w, (callFunc 178 args).run Tryd.prog w = .ok (.enter 178 args) w := enters_of Tryd.func178 (by kernel_rfl) rfl

set_option maxHeartbeats 2000000 in
set_option maxRecDepth 100000 in
theorem violI_c (w : World) (n : Int) (v : Value) (l : List Int) (hv : Ints w v l) (_ : l.length ≤ 1048576) :
    Calls Tryd.prog 131 #[.agg #[.int .i64 n, v]] w fun e w' => ∃ ad i cp, e = .returned (.tuple #[.slice ad i cp, .bool (violB n l)]) ∧ OwnW 3 w.heap.size w' (.slice ad i cp) (violL n l) ∧ Below w.heap.size w w' := by
  have hv0 := hv
  obtain ⟨a, c, rfl⟩ := hv.shape
  have hmf : ∀ (fn : Fn) (first cap : Array Value) (w : World), (Instr.makeFunc fn first cap).run Tryd.prog w = .ok (.func fn first cap) w := fun _ _ _ _ => rfl
  have K0 := Blk.new w 31 #[.int .i64 n, .slice a l.length c]
  cases hf : isFunB n l with
  | false =>
    have hr : violR n l = none := by unfold violR; rw [hf]; rfl
    have hB : violB n l = false := by unfold violB; rw [hr]; rfl
    have hL : violL n l = [] := by unfold violL; rw [hr]; rfl
    have H := Lib.hid (And.intro hB hL)
    have HF := Lib.hid hf
    clear hr hB hL hf
    go_enter Tryd.func131, Tryd.ntmps131
    go_wp2_with (go_at_call 55; refine (isFunI_any n l _ _ (hv0.alloc _)).mono ?_; rintro e w1 ⟨rfl, hb1⟩; rw [HF.out])
    go_ret2
    exact ⟨none, 0, 0, by rw [H.out.1]; rfl, by rw [H.out.2]; exact OwnW.nil _ _ _, (bl1 _ _).after hb1 (by simp)⟩
  | true =>
    obtain ⟨h0, h5, hlen, hlb⟩ := funOk hf
    obtain ⟨N, rfl⟩ := Int.eq_ofNat_of_zero_le h0
    have hN5 : N ≤ 5 := by omega
    have hl2 : l.length = 2 ^ N := by
      have e2 : (N : Int).toNat = N := by omega
      rw [e2] at hlen
      exact_mod_cast hlen
    have hr : violR N l = violT N l := by unfold violR; rw [hf]; rfl
    have hvis : ∀ ob V, w.heap.size < ob → violRel w ob N (.slice a l.length c) none V → Calls Tryd.prog 125 #[.agg #[.int .i64 N, .slice a l.length c], .func (.func 178) #[] #[.pointer (some ⟨w.heap.size, 0, none⟩), .pointer (some ⟨ob, 0, none⟩)]] V fun e w' =>
        e = .returned (.tuple #[]) ∧ violRel w ob N (.slice a l.length c) (violR N l) w' ∧ GrownIn V w' (fun b => b = ob) := fun ob V hob hV => by
      rw [hr]
      refine visitPairs_any N hN5 l _ hl2 178 violClosure_enters _ _ (vstep l) (violRel w ob N (.slice a l.length c)) _ (violRel_mono w ob N _) V ⟨a, c, rfl⟩ (fun b hb => by have := (hV.2.2 : Blk V ob 22 #[.slice none 0 0]).lt; omega) ?_ none hV
      intro a' s i k W hs hik hk _ _ hR _
      exact violClosure w ob hob N hN5 l _ hv0 hl2 hlb a' s i k W hs hik hk hR
    have HV := Lib.hid hvis
    have HF := Lib.hid hf
    clear hvis hr hf hlen hlb hl2
    go_enter Tryd.func131, Tryd.ntmps131
    go_wp2_with fail
    refine (isFunI_any N l _ _ (hv0.alloc _)).mono ?_
    rintro e w1 ⟨rfl, hb1⟩
    rw [HF.out]
    have K1 := K0.keep hb1
    have B1 : Below w.heap.size w w1 := (bl1 _ _).after hb1 (by simp)
    have G1 := K1.cell
    have z1 := K1.lt
    clear hb1 K0
    go_wp2_with fail
    have R0 : violRel w w1.heap.size N (.slice a l.length c) none (w1.alloc (.cells #[.slice none 0 0] 22)) := ⟨B1.alloc B1.size _, K1.alloc _, Blk.new _ _ _⟩
    refine (HV.out w1.heap.size _ z1 R0).mono ?_
    rintro e w2 ⟨rfl, ⟨B2, K2, hout⟩, hg2⟩
    clear G1 R0
    cases hR : violR N l with
    | none =>
      rw [hR] at hout
      have Ko : Blk w2 w1.heap.size 22 #[.slice none 0 0] := hout
      have hB : violB N l = false := by unfold violB; rw [hR]; rfl
      have hL : violL N l = [] := by unfold violL; rw [hR]; rfl
      have H := Lib.hid (And.intro hB hL)
      have Go := Ko.cell
      clear hout hR hB hL
      go_wp2_with fail
      go_quiet (fail)
      go_wp2
      go_ret2
      exact ⟨none, 0, 0, by rw [H.out.1]; rfl, by rw [H.out.2]; exact OwnW.nil _ _ _, B2.drewN' _⟩
    | some t =>
      rw [hR] at hout
      obtain ⟨g, Ko, ow⟩ := hout
      have hB : violB N l = true := by unfold violB; rw [hR]; rfl
      have hL : violL N l = triL (some t) := by unfold violL; rw [hR]
      have H := Lib.hid (And.intro hB hL)
      have Go := Ko.cell
      have y1 := B1.size
      clear hR hB hL
      go_wp2_with fail
      go_quiet (fail)
      go_wp2
      go_ret2
      exact ⟨some ⟨g, 0, none⟩, 3, 3, by rw [H.out.1]; rfl, by rw [H.out.2]; exact ((ow.toW.mono (by omega)).drewN _), B2.drewN' _⟩

set_option maxHeartbeats 1000000 in
theorem isSubI_any (n : Int) (l : List Int) (v : Value) (w : World) (hv : Ints w v l) (hl : l.length ≤ 1048576) :
    Calls Tryd.prog 64 #[.agg #[.int .i64 n, v]] w fun e w' => e = .returned (.bool (subB n l)) ∧ Below w.heap.size w w' := by
  have hv0 := hv
  obtain ⟨a, c, rfl⟩ := hv.shape
  have K0 := Blk.new w 31 #[.int .i64 n, .slice a l.length c]
  go_enter Tryd.func64, Tryd.ntmps64
  go_wp2_with fail
  refine (violI_c _ n _ l (hv0.alloc _) hl).mono ?_
  rintro e w1 ⟨p1, i1, q1, rfl, o1, hb1⟩
  have K1 := K0.keep hb1
  have B1 : Below w.heap.size w w1 := (bl1 _ _).after hb1 (by simp)
  have G1 := K1.cell
  go_wp2_with fail
  refine (isFunI_any n l _ _ (hv0.below B1 (Nat.le_refl _))).mono ?_
  rintro e w2 ⟨rfl, hb2⟩
  have B2 := B1.after hb2 B1.size
  cases hf : isFunB n l with
  | false =>
    have hx : subB n l = false := by unfold subB; rw [hf]; rfl
    have HX := Lib.hid hx
    clear hx hf
    go_wp2
    go_ret
    exact ⟨by rw [HX.out]; rfl, B2⟩
  | true =>
    have hx : subB n l = !violB n l := by unfold subB; rw [hf]; rfl
    have HX := Lib.hid hx
    clear hx hf
    go_wp2
    go_ret
    exact ⟨by rw [HX.out]; rfl, B2⟩
end Go.Proofs.YtpaoiiiceekkkaaDoor
end
