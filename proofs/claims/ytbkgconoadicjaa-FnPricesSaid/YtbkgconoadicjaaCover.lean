/- Covers. -/
import Derived.Test.YtbkgconoadicjaaHas
namespace Go.Proofs.Ytbkgconoadicjaa
open Go.RowKit Go.G5

/-- the sets' elements together -/
def unionL (l : List Int) : Int := l.foldl ior 0
theorem union_bd (g : Nat) (l : List Int) (h : ∀ s ∈ l, 0 ≤ s ∧ s < 2 ^ g) : ∀ z, 0 ≤ z → z < 2 ^ g → 0 ≤ l.foldl ior z ∧ l.foldl ior z < 2 ^ g := by
  induction l with
  | nil => intro z h0 h1; exact ⟨h0, h1⟩
  | cons a l ih =>
    intro z h0 h1
    have ha := h a (by simp)
    have hz := ior_bd z a g h0 ha.1 h1 ha.2
    exact ih (fun s hs => h s (by simp [hs])) _ hz.1 hz.2

set_option maxHeartbeats 400000 in
theorem unionOf_any (l : List Int) (v : Value) (w : World) (hv : Ints w v l) (h : ∀ s ∈ l, 0 ≤ s ∧ s < 64) :
    Calls Try.prog 114 #[v] w fun e w' => e = .returned (.int .i64 (unionL l)) ∧ w = w' := by
  obtain ⟨a, b, off, c, rfl, hlen, hix, hc, hb⟩ := hv.view Try.prog 22 3 Try.underlying22 intElem
  go_enter Try.func114, Try.ntmps114
  go_wp2
  go_loop [3, 8] (fun m i => ∃ k : Nat, k ≤ l.length ∧ i = .int .i64 k ∧ m = .int .i64 (unionL (l.take k))) (fun _ i => l.length - (intOf i).toNat)
  case atStart => exact ⟨0, Nat.zero_le _, rfl, rfl⟩
  case round =>
    obtain ⟨k, hk, rfl, rfl⟩ := hrel
    have hbd := union_bd 6 (l.take k) (fun s hs => by have := h s (List.mem_of_mem_take hs); simpa using this) 0 (by omega) (by decide)
    obtain ⟨m, hm⟩ : ∃ m, m = unionL (l.take k) := ⟨_, rfl⟩
    rw [show (l.take k).foldl ior 0 = m from hm.symm] at hbd
    rw [← hm]
    have HM := Lib.hid hm
    have h1 : 0 ≤ m := hbd.1
    have h2 : m < 64 := by simpa using hbd.2
    clear hm hbd
    by_cases hlt : k < l.length
    · have hlk := h _ (List.getElem_mem hlt)
      have hor := ior_is h1 (by omega) hlk.1 (by omega)
      go_wp2
      go_round
      case rel => exact ⟨k + 1, by omega, by go_num, by unfold unionL; rw [fold_take _ _ _ _ hlt]; rw [HM.out]; rfl⟩
      case measure => simp [intOf]; omega
    · go_wp2
      go_ret
      exact ⟨ret_int (by rw [HM.out]; unfold unionL; rw [fold_all _ _ _ _ (by omega)]), rfl⟩

theorem groundOf_any (n : Int) (v : Value) (l : List Int) (w : World) (hv : Ints w v l) (h0 : 0 ≤ n) (h1 : n ≤ 40) :
    Calls Try.prog 84 #[.agg #[.int .i64 n, v]] w fun e w' => e = .returned (.int .i64 (2 ^ n.toNat - 1)) ∧ Below w.heap.size w w' := by
  obtain ⟨av, cv, rfl⟩ := hv.shape
  have h2 := two_pow n.toNat 40 (by omega)
  have h3 := h2.1
  have h4 := h2.2
  simp at h3
  clear h2
  go_enter Try.func84, Try.ntmps84
  go_wp2
  go_ret
  exact ⟨rfl, bl1 _ _⟩

def isCoverB (g : Int) (l x : List Int) : Bool := isFamB g l && x.all (has l) && (unionL x == 2 ^ g.toNat - 1)

theorem fam_mem {g : Int} {l : List Int} (h : isFamB g l = true) : ∀ s ∈ l, 0 ≤ s ∧ s < 64 := by
  obtain ⟨h0, h6, hs, _⟩ := famOk h
  intro s hm
  have := hs s hm
  have := pow_le64 h0 h6
  omega

set_option maxHeartbeats 1000000 in
theorem isCoverI_c (w : World) (g : Int) (v : Value) (l : List Int) (hv : Ints w v l) (hl0 : l.length ≤ 1048576) (u : Value) (x : List Int) (hu : Ints w u x) (_ : x.length ≤ 1048576) :
    Calls Try.prog 64 #[.agg #[.int .i64 g, v], u] w fun e w' => e = .returned (.bool (isCoverB g l x)) ∧ Below w.heap.size w w' := by
  obtain ⟨av, cv, rfl⟩ := hv.shape
  obtain ⟨a, b, off, c, rfl, hlen, hix, hc, hb⟩ := hu.view Try.prog 22 3 Try.underlying22 intElem
  go_enter Try.func64, Try.ntmps64
  go_wp2_with fail
  refine (isFamI_any g l _ _ (hv.alloc _)).mono ?_
  rintro e w1 ⟨rfl, hb1⟩
  have X1 := (Box2.new w g (.slice av l.length cv) 29).after hb1
  clear hb1
  cases hf : isFamB g l with
  | false =>
    have hx : isCoverB g l x = false := by unfold isCoverB; rw [hf]; rfl
    have HX := Lib.hid hx
    obtain ⟨d0, d1, B1, z1⟩ := X1
    clear hx
    go_wp2
    go_ret
    exact ⟨by rw [HX.out]; rfl, B1⟩
  | true =>
    obtain ⟨h0, h6, hs, hasc⟩ := famOk hf
    have hm := fam_mem hf
    have hx : isCoverB g l x = (x.all (has l) && (unionL x == 2 ^ g.toNat - 1)) := by unfold isCoverB; rw [hf]; rfl
    have HX := Lib.hid hx
    have HA := Lib.hid hasc
    have HMM := Lib.hid hm
    clear hx hs hasc hm
    obtain ⟨d0, d1, B1, z1⟩ := X1
    go_wp2_with fail
    go_loopw [12] (fun i wr => ∃ k : Nat, k ≤ x.length ∧ i = .int .i64 k ∧ (x.take k).all (has l) = true ∧ Box2 w wr g (.slice av l.length cv)) (fun i _ => x.length - (intOf i).toNat)
    case atStart => exact ⟨0, Nat.zero_le _, rfl, by simp, ⟨d0, d1, B1, z1⟩⟩
    case round =>
      obtain ⟨k, hk, rfl, hall, X⟩ := hrel
      have H := Lib.hid hall
      clear hall d0 d1 B1 z1
      obtain ⟨d0, d1, B1, z1⟩ := X
      have hck := cells_below hc hb B1 (Nat.le_refl _)
      by_cases hlt : k < x.length
      · cases hh : has l x[k] with
        | true =>
          go_wp2_with fail
          refine (hasSet_any g l _ x[k] _ (hv.below B1 (Nat.le_refl _)) HA.out hl0).mono ?_
          rintro e w3 ⟨rfl, hb3⟩
          rw [hh]
          have X3 := (Box2.mk d0 d1 B1 z1).after hb3
          clear hb3 d0 d1 B1 z1
          go_wp2
          go_roundw
          case rel => exact ⟨k + 1, by omega, by go_num, by rw [all_take_succ _ _ _ hlt, H.out, hh]; rfl, X3⟩
          case measure => simp [intOf]; omega
        | false =>
          go_wp2_with fail
          refine (hasSet_any g l _ x[k] _ (hv.below B1 (Nat.le_refl _)) HA.out hl0).mono ?_
          rintro e w3 ⟨rfl, hb3⟩
          rw [hh]
          have B3 := B1.after hb3 B1.size
          clear hb3 d0 d1 B1 z1
          go_wp2
          go_ret
          exact ⟨ret_bool (by rw [HX.out, all_false_at _ _ _ hlt hh]; rfl), B3⟩
      · have hal : x.all (has l) = true := by rw [← all_of_take (has l) x k (by omega), H.out]
        have hmx : ∀ s ∈ x, 0 ≤ s ∧ s < 64 := fun s hs => HMM.out s (has_true.1 (List.all_eq_true.1 hal s hs))
        have HMX := Lib.hid hmx
        have HAL := Lib.hid hal
        clear hal hmx hck
        go_wp2_with fail
        go_region_held3 (fun w' => w'.cell? ⟨w.heap.size, 0, none⟩ = some (.int .i64 g) ∧ w'.cell? ⟨w.heap.size, 1, none⟩ = some (.slice av l.length cv)) (go_keep)
          (first
            | (go_at_call 114; refine (unionOf_any x _ _ (hu.below (B := w.heap.size) (by repeat (first | exact Below.refl _ _ | (with_reducible refine Below.setCell ?_ (by first | omega | (simp; done) | (simp; omega)) _) | (with_reducible refine Below.alloc ?_ (by first | omega | (simp; done) | (simp; omega)) _) | (with_reducible refine Below.drewN' ?_ _) | (with_reducible refine Below.drew ?_) | (with_reducible assumption) | refine Below.trans ?_ (Below.mono (by assumption) (by first | omega | (simp; done) | (simp; omega))))) (Nat.le_refl _)) HMX.out).mono ?_; rintro e w4 ⟨rfl, rfl⟩)
            | (go_at_call 84; refine (groundOf_any g _ l _ (hv.below (B := w.heap.size) (by repeat (first | exact Below.refl _ _ | (with_reducible refine Below.setCell ?_ (by first | omega | (simp; done) | (simp; omega)) _) | (with_reducible refine Below.alloc ?_ (by first | omega | (simp; done) | (simp; omega)) _) | (with_reducible refine Below.drewN' ?_ _) | (with_reducible refine Below.drew ?_) | (with_reducible assumption) | refine Below.trans ?_ (Below.mono (by assumption) (by first | omega | (simp; done) | (simp; omega))))) (Nat.le_refl _)) h0 (by omega)).mono ?_; rintro e w5 ⟨rfl, hb5⟩; obtain ⟨hc5, hf5⟩ := bcellN hb5 (w.heap.size + 1) (by first | omega | (simp; done) | (simp; omega)); have z5 := hb5.size; (try simp at z5)))
        go_wp2
        go_ret
        exact ⟨ret_bool (by rw [HX.out, HAL.out]; rfl), (by repeat (first | exact Below.refl _ _ | (with_reducible refine Below.setCell ?_ (by first | omega | (simp; done) | (simp; omega)) _) | (with_reducible refine Below.alloc ?_ (by first | omega | (simp; done) | (simp; omega)) _) | (with_reducible refine Below.drewN' ?_ _) | (with_reducible refine Below.drew ?_) | (with_reducible assumption) | refine Below.trans ?_ (Below.mono (by assumption) (by first | omega | (simp; done) | (simp; omega)))))⟩

set_option maxHeartbeats 1000000 in
theorem isCoverS_c (w : World) (g : Int) (v : Value) (l : List Int) (hv : Ints w v l) (_ : l.length ≤ 1048576) (u : Value) (x : List Int) (hu : Ints w u x) (_ : x.length ≤ 1048576) :
    Calls Try.prog 70 #[.agg #[.int .i64 g, v], u] w fun e w' => e = .returned (.bool (isCoverB g l x)) ∧ Below w.heap.size w w' := by
  obtain ⟨av, cv, rfl⟩ := hv.shape
  obtain ⟨a, b, off, c, rfl, hlen, hix, hc, hb⟩ := hu.view Try.prog 22 3 Try.underlying22 intElem
  obtain ⟨W0, hW0⟩ : ∃ W, W = w.alloc (.cells #[.int .i64 g, .slice av l.length cv] 29) := ⟨_, rfl⟩
  have X0 : Box2 w W0 g (.slice av l.length cv) := hW0 ▸ Box2.new w g (.slice av l.length cv) 29
  have hc0 := cells_below hc hb X0.B (Nat.le_refl _)
  have hv0 := hv.below X0.B (Nat.le_refl _)
  go_enter Try.func70, Try.ntmps70
  go_wp2
  rw [← hW0]
  clear hW0 hc
  obtain ⟨d0, d1, B1, z1⟩ := X0
  go_loopw [5, 6] (fun m i wr => ∃ (k n : Nat) (u : Int), k ≤ x.length ∧ i = .int .i64 k ∧ m = .int .i64 u ∧ (isFamB g l = true → u = unionL (x.take k)) ∧ (x.take k).all (has l) = true ∧ wr = W0.drewN n) (fun _ i _ => x.length - (intOf i).toNat)
  case atStart => exact ⟨0, 0, 0, Nat.zero_le _, rfl, rfl, fun _ => rfl, by simp, rfl⟩
  case round =>
    obtain ⟨k, n, q, hk, rfl, rfl, hun, hall, rfl⟩ := hrel
    have H := Lib.hid hall
    have HU := Lib.hid hun
    clear hall hun
    by_cases hlt : k < x.length
    · cases hh : has l x[k] with
      | true =>
        go_wp2
        go_quiet ((go_at_call 102; first | exact q_bool2 (l10Has_any l _ _ _ (hv0.drewN _)) hh | exact q_bool (l10Has_any l _ _ _ (hv0.drewN _)) hh))
        go_wp2
        go_roundw
        case rel =>
          refine ⟨k + 1, n + nq, _, by omega, by go_num, rfl, fun hf => ?_, by rw [all_take_succ _ _ _ hlt, H.out, hh]; rfl, by simp⟩
          have hm := fam_mem hf
          have hbd := union_bd 6 (x.take k) (fun s hs => by
            have := hm s (has_true.1 (List.all_eq_true.1 H.out s hs))
            simpa using this) 0 (by omega) (by decide)
          have hxk := hm x[k] (has_true.1 hh)
          have hq := HU.out hf
          rw [show (x.take k).foldl ior 0 = q from hq.symm] at hbd
          have h64 : q < 64 := by simpa using hbd.2
          rw [ior_is hbd.1 (by omega) hxk.1 (by omega), hq]
          unfold unionL
          rw [fold_take _ _ _ _ hlt]
        case measure => simp [intOf]; omega
      | false =>
        go_wp2
        go_quiet ((go_at_call 102; first | exact q_bool2 (l10Has_any l _ _ _ (hv0.drewN _)) hh | exact q_bool (l10Has_any l _ _ _ (hv0.drewN _)) hh))
        go_wp2
        go_ret
        refine ⟨ret_bool ?_, (B1.drewN' _).drewN' _⟩
        unfold isCoverB
        rw [all_false_at _ _ _ hlt hh]; simp
    · have hal : x.all (has l) = true := by rw [← all_of_take (has l) x k (by omega), H.out]
      go_wp2_with fail
      refine (isFamS_any g l _ _ (hv0.drewN _)).mono ?_
      rintro e w3 ⟨rfl, hb3⟩
      have X3 := (Box2.drewN ⟨d0, d1, B1, z1⟩ n).after hb3
      obtain ⟨e0, e1, B3, z3⟩ := X3
      cases hf : isFamB g l with
      | false =>
        have hx : isCoverB g l x = false := by unfold isCoverB; rw [hf]; rfl
        have HX := Lib.hid hx
        clear hx hal
        go_wp2
        go_ret
        exact ⟨by rw [HX.out]; rfl, B3⟩
      | true =>
        obtain ⟨h0, h6, _, _⟩ := famOk hf
        have hq : unionL x = q := by
          rw [HU.out hf]; unfold unionL; rw [fold_all _ _ _ _ (by omega)]
        have hx : isCoverB g l x = (q == 2 ^ g.toNat - 1) := by unfold isCoverB; rw [hf, hal, hq]; rfl
        have HX := Lib.hid hx
        clear hx hal hq
        go_wp2_with (go_at_call 82; refine (l2Full_i g _ h0 (by omega)).mono ?_; rintro e w' ⟨rfl, rfl⟩)
        go_ret
        exact ⟨by rw [HX.out]; rfl, B3⟩
end Go.Proofs.Ytbkgconoadicjaa
