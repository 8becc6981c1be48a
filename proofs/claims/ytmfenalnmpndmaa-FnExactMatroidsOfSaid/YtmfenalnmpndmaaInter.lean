/- Families whose sets meet. -/
import Derived.Test.YtmfenalnmpndmaaCover
import Derived.Test.YtmfenalnmpndmaaCount
namespace Go.Proofs.Ytmfenalnmpndmaa
open Go.RowKit Go.G5

def allTo (p : Nat → Bool) : Nat → Bool
  | 0 => true
  | k + 1 => allTo p k && p k
theorem allTo_false {p : Nat → Bool} {k n : Nat} (h : k < n) (hp : p k = false) : allTo p n = false := by
  induction n with
  | zero => omega
  | succ n ih =>
    rw [allTo]
    by_cases hk : k = n
    · rw [← hk, hp]; simp
    · rw [ih (by omega)]; rfl
theorem allTo_succ {p : Nat → Bool} {k : Nat} (h : allTo p k = true) (hp : p k = true) : allTo p (k + 1) = true := by rw [allTo, h, hp]; rfl
theorem getD_at (l : List Int) (k : Nat) (h : k < l.length) : l.getD k 0 = l[k] := by rw [List.getD_eq_getElem?_getD, List.getElem?_eq_getElem h, Option.getD_some]

def meetB (l : List Int) (s : Int) : Bool := l.all fun t => iand t s != 0
def interB (g : Int) (l : List Int) : Bool := isFamB g l && l.all (meetB l)
def meetS (l : List Int) : Bool := allTo (fun i => allTo (fun k => iand (l.getD i 0) (l.getD k 0) != 0) (i + 1)) l.length

end Go.Proofs.Ytmfenalnmpndmaa
