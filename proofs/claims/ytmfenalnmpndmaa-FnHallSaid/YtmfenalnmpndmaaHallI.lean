/- Representatives and Hall's condition: the first program. -/
import Derived.Test.YtmfenalnmpndmaaHallP
import Derived.Test.YtmfenalnmpndmaaApp
import Derived.Test.YtmfenalnmpndmaaMarkK
import Derived.Shelf.Abstract
namespace Go.Proofs.Ytmfenalnmpndmaa
open Go.RowKit Go.G5

theorem areFew_any (g : Int) (l : List Int) (v : Value) (w : World) (hv : Ints w v l) :
    Calls Try.prog 95 #[.int .i64 g, v] w fun e w' => e = .returned (.bool (fewB g l)) ∧ w = w' := by
  obtain ⟨a, c, rfl⟩ := hv.shape
  by_cases h : l.length ≤ 6
  · have hx : fewB g l = areSetsB g l := by unfold fewB; rw [decide_eq_true h]; rfl
    have hi : (l.length : Int) ≤ 6 := by omega
    have HX := Lib.hid hx
    clear hx
    go_enter Try.func95, Try.ntmps95
    go_wp2_with (go_at_call 122; refine (areSets_any g l _ _ hv).mono ?_; rintro e w' ⟨rfl, rfl⟩)
    go_ret
    exact ⟨by rw [HX.out]; rfl, rfl⟩
  · have hx : fewB g l = false := by unfold fewB; rw [decide_eq_false h]; rfl
    have hi : ¬ (l.length : Int) ≤ 6 := by omega
    have HX := Lib.hid hx
    clear hx
    go_enter Try.func95, Try.ntmps95
    go_wp2
    go_ret
    exact ⟨by rw [HX.out]; rfl, rfl⟩

/-- the closure keeps the list and says so -/
theorem repClosure (w : World) (bo bf : Nat) (v : Value) (a : Option Addr) (n c : Nat) (hv : v = .slice a n c) (co : Array Value) (Ko : Blk w bo 24 #[.slice none 0 0]) (Kf : Blk w bf 4 #[.bool false]) (hne : bo ≠ bf) (_ : co = #[]) :
    Calls Try.prog 97 #[v, .pointer (some ⟨bo, 0, none⟩), .pointer (some ⟨bf, 0, none⟩)] w fun e w' => e = .returned (.bool false) ∧ Blk w' bo 24 #[v] ∧ Blk w' bf 4 #[.bool true] ∧ GrownIn w w' (fun k => k = bo ∨ k = bf) := by
  subst hv
  have Go := Ko.cell
  have Gf := Kf.cell
  have Fo := Ko.frozen
  have Ff := Kf.frozen
  have zo := Ko.lt
  have zf := Kf.lt
  have hne2 : ¬ bf = bo := fun e => hne e.symm
  go_enter Try.func97, Try.ntmps97
  go_wp2
  refine post_named ?_
  intro Wf hWf
  have K1 : Blk Wf bo 24 #[.slice a n c] := by
    rw [hWf]
    have := (Ko.set 0 (.slice a n c)).far (p := ⟨bf, 0, none⟩) hne (.bool true)
    simpa using this
  have K2 : Blk Wf bf 4 #[.bool true] := by
    rw [hWf]
    have := (Kf.far (p := ⟨bo, 0, none⟩) hne2 (.slice a n c)).set 0 (.bool true)
    simpa using this
  have hg : GrownIn w Wf (fun k => k = bo ∨ k = bf) := by
    rw [hWf]
    exact (GrownIn.of_row (grown_setCell w ⟨bo, 0, none⟩ _) (fun k hk => .inl (Option.some.inj hk).symm)).trans (GrownIn.of_row (grown_setCell _ ⟨bf, 0, none⟩ _) (fun k hk => .inr (Option.some.inj hk).symm))
  clear hWf Go Gf Fo Ff
  go_ret
  exact ⟨rfl, K1, K2, hg⟩
theorem repClosure_enters : ∀ args w, (callFunc 97 args).run Try.prog w = .ok (.enter 97 args) w := enters_of Try.func97 (by kernel_rfl) rfl
end Go.Proofs.Ytmfenalnmpndmaa
