/- The laws' own marks. -/
import Derived.Test.YtmfenalnmpndmaaOwnW
import Derived.Deep.Light
namespace Go.Proofs.Ytmfenalnmpndmaa
open Go.RowKit Go.G5

def ramp (k : Int) : Nat → List Int
  | 0 => []
  | n + 1 => k :: ramp (k + 1) n
theorem ramp_len (n : Nat) : ∀ k : Int, (ramp k n).length = n := by
  induction n with
  | zero => intro k; rfl
  | succ n ih => intro k; simp [ramp, ih]
theorem ramp_get (n : Nat) : ∀ (k : Int) (j : Nat) (h : j < (ramp k n).length), (ramp k n)[j] = k + j := by
  induction n with
  | zero => intro k j h; simp [ramp] at h
  | succ n ih =>
    intro k j h
    cases j with
    | zero => simp [ramp]
    | succ j =>
      simp only [ramp, List.getElem_cons_succ]
      rw [ih (k + 1) j (by simpa [ramp] using h)]
      push_cast; omega
theorem ramp_step (k : Int) (l : List Int) (j : Nat) (h : j < l.length) : (ramp k j ++ l.drop j).set j (k + j) = ramp k (j + 1) ++ l.drop (j + 1) := by
  apply List.ext_getElem
  · simp [ramp_len]; omega
  · intro i h1 h2
    simp only [List.length_set, List.length_append, ramp_len, List.length_drop] at h1 h2
    rw [List.getElem_set]
    by_cases hi : j = i
    · subst hi
      rw [if_pos rfl, List.getElem_append_left (by rw [ramp_len]; omega), ramp_get]
    · rw [if_neg hi]
      by_cases hij : i < j
      · rw [List.getElem_append_left (by rw [ramp_len]; omega), List.getElem_append_left (by rw [ramp_len]; omega), ramp_get, ramp_get]
      · rw [List.getElem_append_right (by rw [ramp_len]; omega), List.getElem_append_right (by rw [ramp_len]; omega)]
        simp only [ramp_len, List.getElem_drop]
        congr 1; omega

theorem ramp_inR (k : Int) (n : Nat) (h0 : 0 ≤ k) (h1 : k + n ≤ 9223372036854775807) : ∀ x ∈ ramp k n, InR x := by
  intro x hx
  obtain ⟨j, hj, rfl⟩ := List.getElem_of_mem hx
  rw [ramp_get]
  rw [ramp_len] at hj
  exact ⟨by omega, by omega⟩

set_option maxHeartbeats 400000 in
theorem markIntS_any (w : World) (v : Value) (l : List Int) (B : Nat) (hown : OwnW 3 B w v l) (k0 : Int) (h0 : 0 ≤ k0) (h1 : k0 ≤ 1099511627776) (hl : l.length ≤ 1099511627776) :
    Calls Try.prog 92 #[v, .int .i64 k0] w fun e w' => e = .returned (.int .i64 (k0 + l.length)) ∧ OwnW 3 B w' v (ramp k0 l.length) ∧ w.grownBy w' v.ownBlock := by
  rcases hown.cases with ⟨rfl, rfl⟩ | ⟨g, cp, rfl, hBg, hgl⟩
  · go_enter Try.func92, Try.ntmps92
    go_wp2
    refine wp_loop_rounds 1 ?_
    rw [rounds_succ]
    go_wp2
    go_ret
    exact ⟨ret_int (by simp), hown, World.grownBy.refl _ _⟩
  go_enter Try.func92, Try.ntmps92
  go_wp2
  go_loopw [1, 5] (fun kk i wr => ∃ j : Nat, j ≤ l.length ∧ i = .int .i64 j ∧ kk = .int .i64 (k0 + j) ∧ OwnW 3 B wr (.slice (some ⟨g, 0, none⟩) l.length cp) (ramp k0 j ++ l.drop j) ∧ w.grownBy wr (some g))
    (fun _ i _ => l.length - (intOf i).toNat)
  case atStart => exact ⟨0, Nat.zero_le _, rfl, by simp, by simpa [ramp] using hown, World.grownBy.refl _ _⟩
  case round =>
    obtain ⟨j, hj, rfl, rfl, ho, hg⟩ := hrel
    have hlen : l.length = (ramp k0 j ++ l.drop j).length := by simp [ramp_len]; omega
    by_cases hlt : j < l.length
    · have ho2 := ho.stored hlen j (k0 + j) ⟨by omega, by omega⟩
      obtain ⟨u, hcell⟩ : ∃ u, wr.cell? ⟨g, j, none⟩ = some u := ⟨_, ho.cellAt hlen j (by omega)⟩
      have hfr := ho.frozenAt hlen j
      rw [ramp_step k0 l j hlt] at ho2
      have H := Lib.hid ho2
      clear ho2 ho hlen
      go_wp2
      go_roundw
      case rel => exact ⟨j + 1, by omega, by go_num, by go_num, H.out.1, gr_trans hg H.out.2⟩
      case measure => simp [intOf]; omega
    · have hjl : j = l.length := by omega
      subst hjl
      clear hlen
      go_wp2
      go_ret
      refine ⟨rfl, by simpa using ho, hg⟩

set_option maxHeartbeats 400000 in
theorem heldIntS_any (w : World) (v : Value) (k0 : Int) (n : Nat) (hv : Ints w v (ramp k0 n)) (h0 : 0 ≤ k0) (h1 : k0 ≤ 1099511627776) (hl : n ≤ 1099511627776) :
    Calls Try.prog 93 #[v, .int .i64 k0] w fun e w' => e = .returned (.int .i64 (k0 + n)) ∧ Below w.heap.size w w' := by
  obtain ⟨a, b, off, c, rfl, hlen, hix, hc, hb⟩ := hv.view Try.prog 24 3 Try.underlying24 intElem
  have hrl := ramp_len n k0
  have hcc : ∀ j, j < n → w.cell? ⟨b, off + j, none⟩ = some (.int .i64 (k0 + j)) := fun j hj => by
    rw [hc j (by omega), ramp_get]
  rw [hrl] at hix
  clear hc
  obtain ⟨q, hq⟩ : ∃ q, q = Value.slice a (ramp k0 n).length c := ⟨_, rfl⟩
  rw [hrl]
  clear hrl hq hlen
  go_enter Try.func93, Try.ntmps93
  go_wp2
  go_loopw [1, 5] (fun kk i wr => ∃ j m : Nat, j ≤ n ∧ i = .int .i64 j ∧ kk = .int .i64 (k0 + j) ∧ wr = w.drewN m) (fun _ i _ => n - (intOf i).toNat)
  case atStart => exact ⟨0, 0, Nat.zero_le _, rfl, by simp, rfl⟩
  case round =>
    obtain ⟨j, m, hj, rfl, rfl, rfl⟩ := hrel
    by_cases hlt : j < n
    · have hcj := hcc j hlt
      go_wp2
      go_roundw
      case rel => exact ⟨j + 1, m, by omega, by go_num, by go_num, rfl⟩
      case measure => simp [intOf]; omega
    · go_wp2
      go_ret
      exact ⟨ret_int (by omega), (Below.refl _ _).drewN' _⟩

end Go.Proofs.Ytmfenalnmpndmaa
