/- Families whose sets meet. -/
import Derived.Test.YtpaoiiiceekkkaaDoorCover
import Derived.Test.YtpaoiiiceekkkaaDoorCount
namespace Go.Proofs.YtpaoiiiceekkkaaDoor
open Go.RowKit Go.G5

def allTo (p : Nat → Bool) : Nat → Bool
  | 0 => true
  | k + 1 => allTo p k && p k
theorem allTo_false {p : Nat → Bool} {k n : Nat} (h : k < n) (hp : p k = false) : allTo p n = false := by
  induction n with
  | zero => omega
  | succ n ih =>
    rw [allTo]
    by_cases hk : k = n
    · rw [← hk, hp]; simp
    · rw [ih (by omega)]; rfl
theorem allTo_succ {p : Nat → Bool} {k : Nat} (h : allTo p k = true) (hp : p k = true) : allTo p (k + 1) = true := by rw [allTo, h, hp]; rfl
theorem getD_at (l : List Int) (k : Nat) (h : k < l.length) : l.getD k 0 = l[k] := by rw [List.getD_eq_getElem?_getD, List.getElem?_eq_getElem h, Option.getD_some]

def meetB (l : List Int) (s : Int) : Bool := l.all fun t => iand t s != 0
def interB (g : Int) (l : List Int) : Bool := isFamB g l && l.all (meetB l)
def meetS (l : List Int) : Bool := allTo (fun i => allTo (fun k => iand (l.getD i 0) (l.getD k 0) != 0) (i + 1)) l.length

set_option maxHeartbeats 400000 in
theorem meetsAll_any (l : List Int) (v : Value) (s : Int) (w : World) (hv : Ints w v l) (hm : ∀ x ∈ l, 0 ≤ x ∧ x < 64) (h0 : 0 ≤ s) (h1 : s < 64) :
    Calls Tryd.prog 185 #[v, .int .i64 s] w fun e w' => e = .returned (.bool (meetB l s)) ∧ w = w' := by
  obtain ⟨a, b, off, c, rfl, hlen, hix, hc, hb⟩ := hv.view Tryd.prog 22 3 Tryd.underlying22 intElem
  go_enter Tryd.func185, Tryd.ntmps185
  go_wp2
  go_loop [9] (fun i => ∃ k : Nat, k ≤ l.length ∧ i = .int .i64 k ∧ (l.take k).all (fun t => iand t s != 0) = true) (fun i => l.length - (intOf i).toNat)
  case atStart => exact ⟨0, Nat.zero_le _, rfl, by simp⟩
  case round =>
    obtain ⟨k, hk, rfl, hall⟩ := hrel
    have H := Lib.hid hall
    clear hall
    by_cases hlt : k < l.length
    · have hlk := hm _ (List.getElem_mem hlt)
      have hA := iand_is hlk.1 (show l[k] < 4611686018427387904 by omega) h0 (by omega)
      by_cases hz : iand l[k] s = 0
      · have ht : (iand l[k] s == 0) = true := by simp [hz]
        have hp : (iand l[k] s != 0) = false := by simp [hz]
        have HP := Lib.hid hp
        clear hz hp
        go_wp2
        go_ret
        exact ⟨ret_bool (by unfold meetB; rw [all_false_at _ _ _ hlt HP.out]), rfl⟩
      · have ht : (iand l[k] s == 0) = false := by simp [hz]
        have hp : (iand l[k] s != 0) = true := by simp [hz]
        have HP := Lib.hid hp
        clear hz hp
        go_wp2
        go_round
        case rel => exact ⟨k + 1, by omega, by go_num, by rw [all_take_succ _ _ _ hlt, H.out, HP.out]; rfl⟩
        case measure => simp [intOf]; omega
    · go_wp2
      go_ret
      exact ⟨ret_bool (by unfold meetB; rw [← all_of_take _ l k (by omega), H.out]), rfl⟩

end Go.Proofs.YtpaoiiiceekkkaaDoor
