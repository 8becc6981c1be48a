/- Ranks of matroids, by their number: the first program. -/
import Derived.Test.YtmfenalnmpndmaaGrowIP
import Derived.Test.YtmfenalnmpndmaaMarkK
namespace Go.Proofs.Ytmfenalnmpndmaa
open Go.RowKit Go.G5

/-- what addRanks leaves: k more functions in the slice of the box -/
def RowBox (w w' : World) (bo : Nat) (a : Option Addr) (k : Nat) (c : Nat) (m : Nat) : Prop :=
  ∃ a' c', Blk w' bo 46 #[.slice a' (k + m) c'] ∧ OwnR 26 0 w' (.slice a' (k + m) c') (k + m) ∧ GrownIn w w' (fun b => b = bo ∨ (Value.slice a k c).ownBlock = some b) ∧ (∀ q, (Value.slice a' (k + m) c').ownBlock = some q → (Value.slice a k c).ownBlock = some q ∨ w.heap.size ≤ q)

set_option maxHeartbeats 4000000 in
set_option maxRecDepth 100000 in
theorem addRanks_0 (N : Nat) (hN : N ≤ 3) (l : List Int) (v : Value) (w : World) (hlm : l.length = 2 ^ N) (hv : OwnW 3 0 w v l) (bo : Nat) (a : Option Addr) (k c : Nat)
    (K : Blk w bo 46 #[.slice a k c]) (hr : OwnR 26 0 w (.slice a k c) k) (hk : k ≤ 1000000) (h1 : (Value.slice a k c).ownBlock ≠ some bo) :
    Calls Try.prog 90 #[.pointer (some ⟨bo, 0, none⟩), .int .i64 N, v] w fun e w' => e = .returned (.tuple #[]) ∧ RowBox w w' bo a k c (growL N 0 l).length := by
  have hp8 : (2 : Nat) ^ N ≤ 8 := Nat.pow_le_pow_right (n := 2) (by decide) hN
  have hpi : ((2 ^ N : Nat) : Int) = (2 : Int) ^ N := by simp
  obtain ⟨av, cv, rfl⟩ := hv.ints.shape
  have ht : ((l.length : Int) == 2 ^ N) = true := by rw [← hpi]; simp; omega
  have hl9 : l.length ≤ 1048576 := by omega
  have hp1 : (2 : Int) ^ N ≤ 8 := by rw [← hpi]; omega
  have hp2 := (two_pow N N (Nat.le_refl _)).2
  have HLM := Lib.hid hlm
  have zo := K.lt
  clear hpi hlm
  go_enter Try.func90, Try.ntmps90
  go_wp2_with fail
  refine calls_named ?_
  intro V hV
  have B : Below w.heap.size w V := by rw [hV]; exact bl1 _ _
  have KF : Blk V w.heap.size 26 #[.int .i64 N, .slice av l.length cv] := by rw [hV]; exact Blk.new _ _ _
  clear hV
  refine (rankI_any N l _ _ (hv.ints.below B (Nat.le_refl _)) hl9).mono ?_
  rintro e w1 ⟨rfl, hb1⟩
  have KF1 := KF.keep hb1
  have B1 := B.after hb1 B.size
  have G1 := KF1.cell
  have z1 := KF1.lt
  have y1 := B1.size
  have Ko := K.keep B1
  have r1 := hr.keep B1
  have Go := Ko.cell
  have Fo := Ko.frozen
  cases hrk : rankB N l with
  | false =>
    have hg : (growL N 0 l).length = 0 := by rw [growL, hrk]; rfl
    have HG := Lib.hid hg
    clear hg hrk
    go_wp2
    refine bodyPost_ret (v := .tuple #[]) (results_none rfl _ _ _) rfl ⟨rfl, ?_⟩
    exact (by rw [HG.out]; exact ⟨a, c, Ko, r1, GrownIn.of_below B1, fun q hq => .inl hq⟩)
  | true =>
    have hg : (growL N 0 l).length = 0 + 1 := by rw [growL, hrk]; rfl
    have HG := Lib.hid hg
    clear hg hrk
    have hv1 := hv.ints.below B1 (Nat.le_refl _)
    have HL9 := Lib.hid hl9
    have HK := Lib.hid hk
    go_wp2_with fail
    have Kdr := Ko.drewN 1
    have KFdr := KF1.drewN 1
    go_region_law
      (first
        | (go_simp; go_at_call 120; refine (copyFun_any _ _ _ l ?_ HL9.out).mono ?_; (with_reducible exact hv1.drew'); rintro e1' w7 ⟨p7, i7, q7, rfl, o7', b7⟩; have Ko7 := (Ko.drewN 1).keep b7; have Go7 := Ko7.cell; have Fo7 := Ko7.frozen; have KF7 := (KF1.drewN 1).keep b7; have G7 := KF7.cell; have F7 := KF7.frozen; have r7 := (r1.keep (Below.refl _ _).drew).keep b7; obtain ⟨hc1, hf1⟩ := bcellN b7 w1.heap.size (Nat.le_refl _); have Koa := Ko7.alloc (.cells #[.int .i64 N, .slice p7 i7 q7] 26); have Goa := Koa.cell)
        | (refine step_putR rfl _ _ _ rfl 26 Try.underlying46 funElem 0 (.slice a k c) k rfl _ _ _ rfl ?_ (cell_new _ _ _ 0 _ rfl) (cell_new _ _ _ 1 _ rfl) rfl rfl (Nat.le_trans HK.out (by decide)) (Nat.zero_le _) ?_; (with_reducible exact r7.keep (bl1 _ _)); intro v8 w8 o8 g8 n8; obtain ⟨a8, q8, rfl⟩ := o8.shape; have Ko8 := (Ko7.alloc _).grow g8 h1; have KF8 := (KF7.alloc _).grow g8 (fun e => by have := (hr.lt _ e).2; omega); have Go8 := Ko8.cell; have Fo8 := Ko8.frozen; have G8 := KF8.cell))
    all_goals
      go_wp2
      refine post_named ?_
      intro Wf hWf
      have KoF : Blk Wf bo 46 #[.slice a8 (k + 1) q8] := by
        rw [hWf]
        have := Ko8.set 0 (.slice a8 (k + 1) q8)
        simpa using this
      have gF : w8.grownBy Wf (some bo) := by rw [hWf]; exact grow_set (World.grownBy.refl _ _) 0 _
      have B7 : Below w.heap.size w w7 := (B1.drewN' 1).after b7 B1.size
      have y7 := B7.size
      clear hWf
      refine bodyPost_ret (v := .tuple #[]) (results_none rfl _ _ _) rfl ⟨rfl, ?_⟩
      rw [HG.out]
      have near : ∀ q, (Value.slice a8 (k + 1) q8).ownBlock = some q → (Value.slice a k c).ownBlock = some q ∨ w.heap.size ≤ q := by
        intro q hq
        rcases n8 with h | h
        · left; rw [← h]; exact hq
        · right; rw [h] at hq; have := Option.some.inj hq; simp at this; omega
      refine ⟨a8, q8, KoF, o8.grow gF ?_, ?_, near⟩
      · intro q hq hq2
        have hq := Option.some.inj hq
        rcases near q hq2 with h | h
        · exact h1 (by rw [h, ← hq])
        · omega
      · exact (GrownIn.of_below ((B7.alloc B7.size _))).trans ((GrownIn.of_row g8 (fun q hq => .inr hq)).trans (GrownIn.of_row gF (fun q hq => .inl (Option.some.inj hq).symm)))
    skip
end Go.Proofs.Ytmfenalnmpndmaa
