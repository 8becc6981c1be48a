/- Ranks of matroids, by their number: steps of the first program. -/
import Derived.Test.YtmfenalnmpndmaaGrowS
import Derived.Test.YtmfenalnmpndmaaClaimCut
namespace Go.G5
open Go Go.RowKit

/-- a step of a region that draws its order: append of one function -/
theorem step_putR {P : Program} {w : World} {ops : Array Oper} {o : Oper} {a : Act} {K : Act → World → Prop} {Q : Exit → Act → World → Prop} {F : Prop} (hgd : o.guard = none) (s x : Operand) (t : TypeId)
    (ho : o.op = .call { callee := .builtin .append, args := #[s, x], argTypes := #[t, t] })
    (E : TypeId) (hT : P.underlying t = some (.slice E)) (hE : FunElem P E) (B : Nat) (v : Value) (n : Nat) (hs : a.eval s = v)
    (b : Nat) (p q : Value) (hx : a.eval x = .slice (some ⟨b, 0, none⟩) 1 1) (hown : OwnR E B w v n) (hp : w.cell? ⟨b, 0, none⟩ = some p) (hq : w.cell? ⟨b, 1, none⟩ = some q) (h1p : p.oneCell' = true) (h1q : q.oneCell' = true) (hlen : n ≤ 1099511627776) (hB : B ≤ w.heap.size)
    (h : ∀ v' w', OwnR E B w' v' (n + 1) → w.grownBy w' v.ownBlock → NearBy w v v' → K (a.put o.dst v') w') : if Region.wanted o (yielded ops a.tmps) = true then Oper.wp P o a w K Q else F := by
  have hw : Region.wanted o (yielded ops a.tmps) = true := by simp [Region.wanted, hgd]
  rw [if_pos hw]
  exact wp_appendR1 s x t ho E hT hE B v n hs hown b p q hx hp hq h1p h1q hlen hB h
theorem OwnR.growIn {w w' : World} {P : Nat → Prop} {E : TypeId} {B : Nat} {v : Value} {n : Nat} (h : OwnR E B w v n) (hg : GrownIn w w' P) (hn : ∀ k, v.ownBlock = some k → ¬ P k) : OwnR E B w' v n := by
  obtain ⟨xs, ⟨h0, h1⟩, h2⟩ := h
  refine ⟨xs, ⟨h0, ?_⟩, h2⟩
  rcases h1 with h1 | ⟨g, cap, cur, rfl, hBg, hg2, r⟩
  · exact .inl h1
  · exact .inr ⟨g, cap, cur, rfl, hBg, by rw [hg.block g (Array.getElem?_eq_some_iff.1 hg2).1 (hn g rfl)]; exact hg2, r⟩
end Go.G5
