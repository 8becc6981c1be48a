/- Which lists are representations: plain, and the first program's test of an element. -/
import Derived.Test.YtmfenalnmpndmaaDefi
import Derived.Test.YtmfenalnmpndmaaOrders
namespace Go.Proofs.Ytmfenalnmpndmaa
open Go.RowKit Go.G5

def usedAt (x : List Int) : Nat → Nat
  | 0 => 0
  | k + 1 => setBit (usedAt x k) (x.getD k 0).toNat
def rpAt (g : Int) (l x : List Int) (k : Nat) : Bool := (decide (0 ≤ x.getD k 0) && decide (x.getD k 0 < g)) && (nbit (l.getD k 0).toNat (x.getD k 0).toNat && !nbit (usedAt x k) (x.getD k 0).toNat)
def isRepB (g : Int) (l x : List Int) : Bool := fewB g l && (decide (x.length = l.length) && allTo (rpAt g l x) x.length)
theorem usedAt_lt (x : List Int) (G : Nat) : ∀ k, (∀ i, i < k → 0 ≤ x.getD i 0 ∧ x.getD i 0 < (G : Int)) → usedAt x k < 2 ^ G := by
  intro k
  induction k with
  | zero => intro _; exact Nat.two_pow_pos G
  | succ k ih =>
    intro h
    have h1 := ih (fun i hi => h i (by omega))
    have h2 := h k (by omega)
    rw [usedAt]
    exact setBit_lt _ _ _ h1 (by omega)
set_option maxHeartbeats 400000 in
theorem isElem_any (n e : Int) (w : World) :
    Calls Try.prog 107 #[.int .i64 n, .int .i64 e] w fun e' w' => e' = .returned (.bool (decide (0 ≤ e) && decide (e < n))) ∧ w = w' := by
  by_cases h0 : 0 ≤ e
  · have t := decide_eq_true h0
    go_enter Try.func107, Try.ntmps107
    go_wp2
    go_ret
    exact ⟨ret_bool (by first | rfl | (rw [t]; rfl)), rfl⟩
  · have t := decide_eq_false h0
    go_enter Try.func107, Try.ntmps107
    go_wp2
    go_ret
    exact ⟨ret_bool (by first | rfl | (rw [t]; rfl)), rfl⟩
end Go.Proofs.Ytmfenalnmpndmaa
