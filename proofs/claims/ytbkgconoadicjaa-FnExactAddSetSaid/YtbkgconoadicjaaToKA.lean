/- A kept blocker that is laid anew; its two lists lie apart. -/
import Derived.Test.YtbkgconoadicjaaTo
import Derived.Test.YtbkgconoadicjaaOwnW
namespace Go.Proofs.Ytbkgconoadicjaa
open Go.RowKit Go.G5

theorem toKeptA_any (n : Int) (v u : Value) (l m : List Int) (w : World) (hv : Ints w v l) (hu : Ints w u m) (hl : l.length ≤ 1048576) (hm : m.length ≤ 1048576) :
    Calls Try.prog 17 #[.agg #[.int .i64 n, v, u]] w fun e w' => ∃ ad i c ad' i' c', e = .returned (.agg #[.int .i64 n, .slice ad i c, .slice ad' i' c']) ∧ OwnI 3 w.heap.size w' (.slice ad i c) l ∧ OwnI 3 w.heap.size w' (.slice ad' i' c') m ∧ Apart (.slice ad i c) (.slice ad' i' c') ∧ Below w.heap.size w w' := by
  obtain ⟨av, cv, rfl⟩ := hv.shape
  obtain ⟨au, cu, rfl⟩ := hu.shape
  go_enter Try.func17, Try.ntmps17
  go_wp2_with (first
    | (go_at_call 24; refine (toFamily_any _ _ l _ (((hv.alloc _).alloc _).alloc _) hl).mono ?_; rintro e w1 ⟨ad, i, c, rfl, hown, hb⟩; obtain ⟨hc, hcf⟩ := bcellN hb (w.heap.size + 1 + 1 + 1) (by first | omega | (simp; done) | (simp; omega)); (try simp at hb); have hcz := hb.size; (try simp at hcz); simp at hown)
    | (go_at_call 79; refine (toIntS_any _ m _ (hu.below (B := w.heap.size) (by repeat (first | exact Below.refl _ _ | (with_reducible refine Below.setCell ?_ (by first | omega | (simp; done) | (simp; omega)) _) | (with_reducible refine Below.alloc ?_ (by first | omega | (simp; done) | (simp; omega)) _) | (with_reducible refine Below.drewN' ?_ _) | (with_reducible refine Below.drew ?_) | (with_reducible assumption) | refine Below.trans ?_ (Below.mono (by assumption) (by first | omega | (simp; done) | (simp; omega))))) (Nat.le_refl _)) hm).mono ?_; rintro e w2 ⟨ad', i', c', rfl, hown', hb'⟩; obtain ⟨hc', hc'f⟩ := bcellN hb' (w.heap.size + 1 + 1 + 1) (by first | omega | (simp; done) | (simp; omega)); (try simp at hb'); have hc'z := hb'.size; (try simp at hc'z); simp at hown'))
  refine bodyPost_ret (v := .agg #[.int .i64 n, .slice ad i c, .slice ad' i' c']) (by simp [results, Try.results17, go_sem, hc, hc']) rfl ?_
  refine ⟨_, _, _, _, _, _, rfl, ?_, ?_, Apart.of_lt (hown.toW) hown'.toW (by first | omega | (simp; done) | (simp; omega)), (by repeat (first | exact Below.refl _ _ | (with_reducible refine Below.setCell ?_ (by first | omega | (simp; done) | (simp; omega)) _) | (with_reducible refine Below.alloc ?_ (by first | omega | (simp; done) | (simp; omega)) _) | (with_reducible refine Below.drewN' ?_ _) | (with_reducible refine Below.drew ?_) | (with_reducible assumption) | refine Below.trans ?_ (Below.mono (by assumption) (by first | omega | (simp; done) | (simp; omega)))))⟩
  · have h1 := (((hown.setBelow (a := (⟨w.heap.size + 1 + 1, 0, none⟩ : Addr)) (by first | omega | (simp; done) | (simp; omega)) (.int .i64 n)).setBelow (a := (⟨w.heap.size + 1 + 1, 1, none⟩ : Addr)) (by first | omega | (simp; done) | (simp; omega)) (.slice ad i c)).below hb' (by first | omega | (simp; done) | (simp; omega)))
    exact ((((h1.setBelow (by first | omega | (simp; done) | (simp; omega)) _).setBelow (by first | omega | (simp; done) | (simp; omega)) _).setBelow (by first | omega | (simp; done) | (simp; omega)) _).setBelow (by first | omega | (simp; done) | (simp; omega)) _).mono (by first | omega | (simp; done) | (simp; omega))
  · exact ((((hown'.setBelow (by first | omega | (simp; done) | (simp; omega)) _).setBelow (by first | omega | (simp; done) | (simp; omega)) _).setBelow (by first | omega | (simp; done) | (simp; omega)) _).setBelow (by first | omega | (simp; done) | (simp; omega)) _).mono (by first | omega | (simp; done) | (simp; omega))
end Go.Proofs.Ytbkgconoadicjaa
