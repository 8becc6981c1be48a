/- Covers. -/
import Derived.Test.YtpaoiiiceekkkaaDoorHas
namespace Go.Proofs.YtpaoiiiceekkkaaDoor
open Go.RowKit Go.G5

/-- the sets' elements together -/
def unionL (l : List Int) : Int := l.foldl ior 0
theorem union_bd (g : Nat) (l : List Int) (h : ∀ s ∈ l, 0 ≤ s ∧ s < 2 ^ g) : ∀ z, 0 ≤ z → z < 2 ^ g → 0 ≤ l.foldl ior z ∧ l.foldl ior z < 2 ^ g := by
  induction l with
  | nil => intro z h0 h1; exact ⟨h0, h1⟩
  | cons a l ih =>
    intro z h0 h1
    have ha := h a (by simp)
    have hz := ior_bd z a g h0 ha.1 h1 ha.2
    exact ih (fun s hs => h s (by simp [hs])) _ hz.1 hz.2

set_option maxHeartbeats 400000 in
theorem unionOf_any (l : List Int) (v : Value) (w : World) (hv : Ints w v l) (h : ∀ s ∈ l, 0 ≤ s ∧ s < 64) :
    Calls Tryd.prog 144 #[v] w fun e w' => e = .returned (.int .i64 (unionL l)) ∧ w = w' := by
  obtain ⟨a, b, off, c, rfl, hlen, hix, hc, hb⟩ := hv.view Tryd.prog 22 3 Tryd.underlying22 intElem
  go_enter Tryd.func144, Tryd.ntmps144
  go_wp2
  go_loop [3, 8] (fun m i => ∃ k : Nat, k ≤ l.length ∧ i = .int .i64 k ∧ m = .int .i64 (unionL (l.take k))) (fun _ i => l.length - (intOf i).toNat)
  case atStart => exact ⟨0, Nat.zero_le _, rfl, rfl⟩
  case round =>
    obtain ⟨k, hk, rfl, rfl⟩ := hrel
    have hbd := union_bd 6 (l.take k) (fun s hs => by have := h s (List.mem_of_mem_take hs); simpa using this) 0 (by omega) (by decide)
    obtain ⟨m, hm⟩ : ∃ m, m = unionL (l.take k) := ⟨_, rfl⟩
    rw [show (l.take k).foldl ior 0 = m from hm.symm] at hbd
    rw [← hm]
    have HM := Lib.hid hm
    have h1 : 0 ≤ m := hbd.1
    have h2 : m < 64 := by simpa using hbd.2
    clear hm hbd
    by_cases hlt : k < l.length
    · have hlk := h _ (List.getElem_mem hlt)
      have hor := ior_is h1 (by omega) hlk.1 (by omega)
      go_wp2
      go_round
      case rel => exact ⟨k + 1, by omega, by go_num, by unfold unionL; rw [fold_take _ _ _ _ hlt]; rw [HM.out]; rfl⟩
      case measure => simp [intOf]; omega
    · go_wp2
      go_ret
      exact ⟨ret_int (by rw [HM.out]; unfold unionL; rw [fold_all _ _ _ _ (by omega)]), rfl⟩

theorem groundOf_any (n : Int) (v : Value) (l : List Int) (w : World) (hv : Ints w v l) (h0 : 0 ≤ n) (h1 : n ≤ 40) :
    Calls Tryd.prog 145 #[.agg #[.int .i64 n, v]] w fun e w' => e = .returned (.int .i64 (2 ^ n.toNat - 1)) ∧ Below w.heap.size w w' := by
  obtain ⟨av, cv, rfl⟩ := hv.shape
  have h2 := two_pow n.toNat 40 (by omega)
  have h3 := h2.1
  have h4 := h2.2
  simp at h3
  clear h2
  go_enter Tryd.func145, Tryd.ntmps145
  go_wp2
  go_ret
  exact ⟨rfl, bl1 _ _⟩

def isCoverB (g : Int) (l x : List Int) : Bool := isFamB g l && x.all (has l) && (unionL x == 2 ^ g.toNat - 1)

theorem fam_mem {g : Int} {l : List Int} (h : isFamB g l = true) : ∀ s ∈ l, 0 ≤ s ∧ s < 64 := by
  obtain ⟨h0, h6, hs, _⟩ := famOk h
  intro s hm
  have := hs s hm
  have := pow_le64 h0 h6
  omega

end Go.Proofs.YtpaoiiiceekkkaaDoor
