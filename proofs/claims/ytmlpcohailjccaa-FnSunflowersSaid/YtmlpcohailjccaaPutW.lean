/- The walk of l15Put. -/
import Derived.Test.YtmlpcohailjccaaPut
import Derived.Test.YtmlpcohailjccaaApp
import Derived.Deep.RegionHeld3
import Derived.Deep.AppendLies
namespace Go.Proofs.Ytmlpcohailjccaa
open Go.RowKit Go.G5

set_option maxHeartbeats 4000000 in
set_option maxRecDepth 100000 in
theorem l15Put_any (B : Nat) (l : List Int) (v : Value) (x : Int) (w : World) (hown : OwnI 3 B w v l) (hB : B ≤ w.heap.size) (hasc : l.Pairwise (· < ·)) (hl : l.length ≤ 1048576) (hx : InR x) :
    Calls Try.prog 173 #[v, .int .i64 x] w fun e w' => ∃ ad i cp, e = .returned (.slice ad i cp) ∧ OwnI 3 B w' (.slice ad i cp) (putL l x) ∧ Below w.heap.size w w' ∧ (∀ k, (Value.slice ad i cp).ownBlock = some k → v.ownBlock = some k ∨ w.heap.size ≤ k) := by
  have hv := hown.ints
  have hv0 := hv
  obtain ⟨a, b, off, c, rfl, hlen, hix, hc, hb⟩ := hv.view Try.prog 22 3 Try.underlying22 intElem
  have HA := Lib.hid hasc
  clear hasc
  go_enter Try.func173, Try.ntmps173
  go_wp2
  go_loop [5] (fun i => ∃ k : Nat, k ≤ l.length ∧ i = .int .i64 k ∧ ∀ y ∈ l.drop k, x < y) (fun i => (intOf i).toNat)
  case atStart => exact ⟨l.length, Nat.le_refl _, rfl, by simp⟩
  case round =>
    obtain ⟨k, hk, rfl, hab⟩ := hrel
    have HAB := Lib.hid hab
    clear hab
    have fin : ∀ (hz : (∀ y ∈ l.take k, y < x)), putL l x = (([] ++ l.take k) ++ [x]) ++ l.drop k := fun hz => put_new l x k HA.out HAB.out hz
    obtain ⟨u1, u2⟩ := hv0.upto 22 3 Try.underlying22 intElem k hk
    obtain ⟨a', c', d1, d2⟩ := hv0.from 22 3 Try.underlying22 intElem k hk
    have FIN := Lib.hid fin
    have zk : (l.take k).length = k := by rw [List.length_take, Nat.min_eq_left hk]
    have zd : (l.drop k).length = l.length - k := List.length_drop
    rw [zd] at d1 d2
    clear zk zd
    clear fin
    by_cases hz : (0 : Int) < k
    · have hj : k - 1 < l.length := by omega
      have hcj := hc (k - 1) hj
      have hixj := fun W => hix W (k - 1) hj
      obtain ⟨y, hy⟩ : ∃ y, y = l[k - 1] := ⟨_, rfl⟩
      rw [← hy] at hcj
      have hk1 : IntKind.i64.wrap ((k : Int) - 1) = ((k - 1 : Nat) : Int) := by rw [IntWalk.i64_in _ ⟨by omega, by omega⟩]; omega
      have HY := Lib.hid hy
      clear hy hix hc
      rcases Int.lt_trichotomy x y with hlt | heq | hgt
      · have hge : x < y := hlt
        go_wp2
        go_round
        case rel =>
          refine ⟨k - 1, by omega, by go_num, ?_⟩
          have := drop_above l x (k - 1) hj (by rw [show k - 1 + 1 = k by omega]; exact HAB.out) (by rw [← HY.out]; exact hlt)
          exact this
        case measure => simp [intOf]; omega
      · subst heq
        have hput := put_have l x HA.out (by rw [HY.out]; exact List.getElem_mem hj)
        have HPUT := Lib.hid hput
        clear hput
        go_wp2
        go_ret
        exact ⟨a, l.length, c, rfl, by rw [HPUT.out]; exact hown, Below.refl _ _, fun _ h => .inl h⟩
      · have hn : ¬ x < y := by omega
        have hne : (y == x) = false := by simp; omega
        have hp := FIN.out (by
          have := take_below l x (k - 1) HA.out hj (by rw [← HY.out]; exact hgt)
          rw [show k - 1 + 1 = k by omega] at this
          exact this)
        have HP := Lib.hid hp
        clear hp
        go_wp2
        go_region_held3 (fun _ => True) (trivial)
          (first
            | (refine step_put rfl _ _ _ rfl 3 Try.underlying22 intElem w.heap.size (.slice (some ⟨_, 0, none⟩) 0 0) [] rfl (.slice a k c) (l.take k) rfl ?_ ?_ ?_ w ?_ (Nat.le_refl _) ?_; (first | (with_reducible exact (OwnI.lit0 w (Nat.le_refl _)).drew') | (with_reducible exact ((OwnI.lit0 w (Nat.le_refl _)).alloc _).drew') | (with_reducible exact (OwnI.lit0' w _).drew')); (first | (with_reducible exact (u2.alloc _).drew') | (with_reducible exact ((u2.alloc _).alloc _).drew')); (simp; omega); (first | (with_reducible exact (bl1 w _).drew) | (with_reducible exact (bl2 w _ _).drew)); (intro v1 w1 o1 b1 pc))
            | (refine step_put rfl _ _ _ rfl 3 Try.underlying22 intElem w.heap.size v1 ([] ++ l.take k) rfl (.slice (some ⟨_, 0, none⟩) 1 1) [x] rfl ?_ ?_ ?_ w ?_ (Nat.le_refl _) ?_; (first | (with_reducible exact o1) | (with_reducible exact o1.alloc _)); (refine Ints.one ?_ hx; first | (with_reducible exact cell_new _ _ _ _ _ rfl) | (with_reducible exact pc _ _ (cell_second _ _ _ _) (own_ne1 _ _ _)) | (with_reducible exact pc _ _ (cell_first _ _ _ _) (own_ne2 _ _ _))); (simp; omega); (first | (with_reducible exact b1) | (with_reducible exact b1.alloc b1.size _)); (intro v2 w2 o2 b2 _))
            | (refine step_put rfl _ _ _ rfl 3 Try.underlying22 intElem w.heap.size v2 (([] ++ l.take k) ++ [x]) rfl (.slice a' (l.length - k) c') (l.drop k) rfl o2 (d2.below b2 (Nat.le_refl _)) ?_ w b2 (Nat.le_refl _) ?_; (simp; omega); (intro v3 w3 o3 b3 _; obtain ⟨av, nv, cv, rfl⟩ := o3.shape3))
          )
        all_goals
          go_wp2
          go_ret
          exact ⟨av, nv, cv, rfl, by rw [HP.out]; exact o3.mono hB, b3, fun _ h => .inr (o3.lt _ h).1⟩
    · have hp := FIN.out (by intro y hy; have : k = 0 := by omega
                             subst this; simp at hy)
      have HP := Lib.hid hp
      clear hp
      go_wp2
      go_region_held3 (fun _ => True) (trivial)
        (first
          | (refine step_put rfl _ _ _ rfl 3 Try.underlying22 intElem w.heap.size (.slice (some ⟨_, 0, none⟩) 0 0) [] rfl (.slice a k c) (l.take k) rfl ?_ ?_ ?_ w ?_ (Nat.le_refl _) ?_; (first | (with_reducible exact (OwnI.lit0 w (Nat.le_refl _)).drew') | (with_reducible exact ((OwnI.lit0 w (Nat.le_refl _)).alloc _).drew') | (with_reducible exact (OwnI.lit0' w _).drew')); (first | (with_reducible exact (u2.alloc _).drew') | (with_reducible exact ((u2.alloc _).alloc _).drew')); (simp; omega); (first | (with_reducible exact (bl1 w _).drew) | (with_reducible exact (bl2 w _ _).drew)); (intro v1 w1 o1 b1 pc))
          | (refine step_put rfl _ _ _ rfl 3 Try.underlying22 intElem w.heap.size v1 ([] ++ l.take k) rfl (.slice (some ⟨_, 0, none⟩) 1 1) [x] rfl ?_ ?_ ?_ w ?_ (Nat.le_refl _) ?_; (first | (with_reducible exact o1) | (with_reducible exact o1.alloc _)); (refine Ints.one ?_ hx; first | (with_reducible exact cell_new _ _ _ _ _ rfl) | (with_reducible exact pc _ _ (cell_second _ _ _ _) (own_ne1 _ _ _)) | (with_reducible exact pc _ _ (cell_first _ _ _ _) (own_ne2 _ _ _))); (simp; omega); (first | (with_reducible exact b1) | (with_reducible exact b1.alloc b1.size _)); (intro v2 w2 o2 b2 _))
          | (refine step_put rfl _ _ _ rfl 3 Try.underlying22 intElem w.heap.size v2 (([] ++ l.take k) ++ [x]) rfl (.slice a' (l.length - k) c') (l.drop k) rfl o2 (d2.below b2 (Nat.le_refl _)) ?_ w b2 (Nat.le_refl _) ?_; (simp; omega); (intro v3 w3 o3 b3 _; obtain ⟨av, nv, cv, rfl⟩ := o3.shape3))
        )
      all_goals
        go_wp2
        go_ret
        exact ⟨av, nv, cv, rfl, by rw [HP.out]; exact o3.mono hB, b3, fun _ h => .inr (o3.lt _ h).1⟩
end Go.Proofs.Ytmlpcohailjccaa
