/- Antichains. -/
import Derived.Test.YtmlpcohailjccaaLam
namespace Go.Proofs.Ytmlpcohailjccaa
open Go.RowKit Go.G5

theorem index_take {w : World} {a : Option Addr} {c : Nat} {l : List Int} (h : Ints w (.slice a l.length c) l) (P : Program) (T E : TypeId) (hT : P.underlying T = some (.slice E)) {b off : Nat}
    (hix : ∀ (w' : World) (k : Nat), k < l.length → (Instr.indexAt T (.slice a l.length c) (.int .i64 (k : Int))).run P w' = .ok (.pointer (some ⟨b, off + k, none⟩)) w') (k : Nat) (hk : k ≤ l.length) :
    ∀ (w' : World) (q : Nat), q < k → (Instr.indexAt T (.slice a k c) (.int .i64 (q : Int))).run P w' = .ok (.pointer (some ⟨b, off + q, none⟩)) w' := by
  intro w' q hq
  have h0 := hix w' q (by omega)
  have hE : P.elem T = E := by simp [Program.elem, hT]
  obtain ⟨a', c', he, h1, h2, _, h4⟩ := h
  simp only [Value.slice.injEq] at he
  obtain ⟨rfl, _, rfl⟩ := he
  rcases h4 with rfl | ⟨b', off', rfl, _, _⟩
  · simp at hk; omega
  · rw [run_indexAt_slice w' T ⟨b', off', none⟩ l.length c .i64 q (by rw [hE]; exact hT), if_pos ⟨by omega, by omega⟩] at h0
    rw [run_indexAt_slice w' T ⟨b', off', none⟩ k c .i64 q (by rw [hE]; exact hT), if_pos ⟨by omega, by omega⟩]
    exact h0

def apartB (a b : Int) : Bool := idif a b != 0 && idif b a != 0
def antiI (l : List Int) : Bool := allTo (fun i => allTo (fun j => apartB (l.getD i 0) (l.getD j 0)) i) l.length
def antiB (g : Int) (l : List Int) : Bool := isFamB g l && antiI l
def fineB (l : List Int) (i : Nat) : Bool := allTo (fun k => k == i || iand (l.getD k 0) (l.getD i 0) != l.getD k 0) l.length
def minTo (l : List Int) : Nat → List Int
  | 0 => []
  | k + 1 => if fineB l k then minTo l k ++ [l.getD k 0] else minTo l k
def freeS (l : List Int) : Bool := (minTo l l.length).length == l.length
theorem minTo_le (l : List Int) (k : Nat) : (minTo l k).length ≤ k := by
  induction k with
  | zero => exact Nat.le_refl _
  | succ k ih =>
    rw [minTo]
    split
    · rw [List.length_append]; simp only [List.length_cons, List.length_nil]; omega
    · omega

end Go.Proofs.Ytmlpcohailjccaa
