/- Steps of a walk through a region with chained calls. -/
import Derived.Test.YtgdkeaooipmgbaaQ38
section
namespace Go
section
variable {P : Program} {ops : Array Oper} {C : World → Prop} {Q : Act → World → Prop}
/-- operations that call nothing -/
def Oper.tame (o : Oper) : Bool :=
  match o.op with
  | .move _ | .assign _ | .pick _ _ _ | .load _ _ | .binOp _ _ _ _ _ | .unOp _ _ _ | .convert _ _ _ | .fieldAddr _ _ _ | .field _ _ _ | .indexAddr _ _ _ | .index _ _ _ | .slice _ _ _ _ _ | .extract _ _ | .build _ _ => true
  | .call c => match c.callee with
    | .builtin .len | .builtin .min | .builtin .max => true
    | _ => false
  | _ => false
theorem value_only (s : Sem Value) (w : World) (f : FuncId) (args : Array Value) (w' : World) : (do pure (Next.value (← s)) : Sem Next).run P w ≠ .ok (.enter f args) w' := by
  simp only [Sem.run_bind, Sem.run_pure]
  cases s.run P w with
  | ok v w1 => simp [Result.andThen]
  | halt x w1 => simp [Result.andThen]
theorem bool_only (s : Sem Bool) (F : Bool → Value) (w : World) (f : FuncId) (args : Array Value) (w' : World) : (do pure (Next.value (F (← s))) : Sem Next).run P w ≠ .ok (.enter f args) w' := by
  simp only [Sem.run_bind, Sem.run_pure]
  cases s.run P w with
  | ok v w1 => simp [Result.andThen]
  | halt x w1 => simp [Result.andThen]
theorem Oper.tame_enter {o : Oper} (h : o.tame = true) (ρ : Operand → Value) (w : World) (f : FuncId) (args : Array Value) (w' : World) : (execOp ρ o).run P w ≠ .ok (.enter f args) w' := by
  unfold Oper.tame at h
  unfold execOp
  split at h <;> rename_i ho <;> simp only [ho]
  case h_1 => simp
  case h_2 => simp
  case h_3 => exact bool_only _ (fun b => if b = true then _ else _) _ _ _ _
  case h_4 => exact value_only _ _ _ _ _
  case h_5 => exact value_only _ _ _ _ _
  case h_6 => exact value_only _ _ _ _ _
  case h_7 => exact value_only _ _ _ _ _
  case h_8 => exact value_only _ _ _ _ _
  case h_9 => exact value_only _ _ _ _ _
  case h_10 => exact value_only _ _ _ _ _
  case h_11 => exact value_only _ _ _ _ _
  case h_12 => exact value_only _ _ _ _ _
  case h_13 => exact value_only _ _ _ _ _
  case h_14 => exact value_only _ _ _ _ _
  case h_15 =>
    rename_i c
    split at h
    · rename_i hc
      simp only [resolve, hc, Sem.run_bind, Sem.run_pure, Result.andThen, invoke, builtin]
      split <;> simp
    · rename_i hc
      simp only [resolve, hc, Sem.run_bind, Sem.run_pure, Result.andThen, invoke, builtin]
      split <;> simp
    · rename_i hc
      simp only [resolve, hc, Sem.run_bind, Sem.run_pure, Result.andThen, invoke, builtin]
      split <;> simp
    · cases h
  case h_16 => cases h
theorem Oper.tame_quiet {o : Oper} (h : o.tame = true) : o.loud = false := by
  unfold Oper.tame at h
  unfold Oper.loud
  split
  · rename_i c hc
    simp only [hc] at h
    split
    · rename_i hv
      simp only [hv] at h
      cases h
    · rfl
  · rfl
theorem Oper.reads_of_quiet {o : Oper} {a : Act} {K : Act → Prop} (h : o.tame = true) (hq : o.quiet P a C K) : o.reads P a C K := by
  obtain ⟨v, h1, h2⟩ := hq
  refine ⟨v, fun w hw => ?_, h2⟩
  have h3 := h1 w hw
  have h4 := Oper.tame_enter (P := P) h a.eval w
  unfold Oper.quietAt at h3
  generalize (execOp a.eval o).run P w = r at *
  cases r with
  | ok n w' =>
    cases n <;> simp only [Oper.quietUpon, Oper.readUpon] at h3 ⊢
    case value u => exact h3
    case skip => exact h3
    case enter f args => exact h4 f args w' rfl
  | halt x w' => simp only [Oper.quietUpon] at h3
/-- the walk behind a name that does not unfold by itself -/
structure WMix (P : Program) (ops : Array Oper) (C : World → Prop) (Q : Act → World → Prop) (l : List Oper) (a : Act) (w : World) : Prop where
  out : wpMix P ops C Q l a w
theorem wpQuiet_to {K K' : Act → Prop} (h : ∀ a, K a → K' a) {o : Oper} {a : Act} (hq : wpQuiet P ops C K [o] a) : wpQuiet P ops C K' [o] a := by
  rw [wpQuiet] at hq ⊢
  split
  · rename_i hw
    rw [if_pos hw] at hq
    obtain ⟨v, h1, h2⟩ := hq
    exact ⟨v, h1, h _ h2⟩
  · rename_i hw
    rw [if_neg hw] at hq
    exact h _ hq
theorem wpMix_tame' {a : Act} {w : World} {o : Oper} {rest : List Oper} (h : o.tame = true) (hq : wpQuiet P ops C (fun a' => wpMix P ops C Q rest a' w) [o] a) : wpMix P ops C Q (o :: rest) a w := by
  rw [wpQuiet] at hq
  rw [wpMix]
  split
  · rename_i hw
    rw [if_pos hw] at hq
    rw [if_neg (by rw [Oper.tame_quiet h]; simp)]
    exact Oper.reads_of_quiet h hq
  · rename_i hw
    rw [if_neg hw] at hq
    exact hq
theorem wpMix_tame {a : Act} {w : World} {o : Oper} {rest : List Oper} (h : o.tame = true) (hq : wpQuiet P ops C (fun a' => WMix P ops C Q rest a' w) [o] a) : WMix P ops C Q (o :: rest) a w :=
  ⟨wpMix_tame' h (wpQuiet_to (fun _ h => h.out) hq)⟩
theorem wpMix_skip {a : Act} {w : World} {o : Oper} {rest : List Oper} (h : Region.wanted o (yielded ops a.tmps) = false) (hq : wpQuiet P ops C (fun a' => WMix P ops C Q rest a' w) [o] a) : WMix P ops C Q (o :: rest) a w := by
  rw [wpQuiet, if_neg (by rw [h]; simp)] at hq
  refine ⟨?_⟩
  rw [wpMix, if_neg (by rw [h]; simp)]
  exact WMix.out hq
theorem wpMix_nil {a : Act} {w : World} (h : Q a w) : WMix P ops C Q [] a w := ⟨h⟩
theorem goes_of_wp {o : Oper} {a : Act} {w : World} {K : Act → World → Prop} {f : FuncId} {args : Array Value} (he : (execOp a.eval o).run P w = .ok (.enter f args) w) (h : Calls P f args w fun e w'' => ∃ v, e = .returned v ∧ C w'' ∧ K (a.put o.dst v) w'') : o.goes P a w C K := by
  unfold Oper.goes
  rw [he]
  exact ⟨rfl, h⟩
/-- a call of a function by its number -/
theorem wpMix_call {a : Act} {w : World} {o : Oper} {rest : List Oper} (f : FuncId) (xs : Array Operand) (ts : Array TypeId) (ho : o.op = .call { callee := .value (.func f), args := xs, argTypes := ts }) (hent : ∀ args w, (callFunc f args).run P w = .ok (.enter f args) w)
    (hw : Region.wanted o (yielded ops a.tmps) = true) (h : ∀ K : Act → World → Prop, (∀ a' w', C w' → WMix P ops C Q rest a' w' → K a' w') → Calls P f (xs.map a.eval) w fun e w'' => ∃ v, e = .returned v ∧ K (a.put o.dst v) w'') : WMix P ops C Q (o :: rest) a w := by
  refine ⟨?_⟩
  rw [wpMix, if_pos hw, if_pos (by unfold Oper.loud; rw [ho])]
  have h1 := h (fun a' w' => C w' ∧ WMix P ops C Q rest a' w') (fun a' w' h1 h2 => ⟨h1, h2⟩)
  refine goes_of_wp (f := f) (args := xs.map a.eval) ?_ (h1.mono fun e w'' ⟨v, he, hC, hk⟩ => ⟨v, he, hC, hk.out⟩)
  unfold execOp
  simp only [ho, resolve, Sem.run_bind]
  have e := hent (xs.map a.eval) w
  simp [Act.eval, Deferred.ofValue, Sem.run_pure, Result.andThen, invoke, go_sem]
  exact e
/-- the region: its calls are chained, each leaves a world of the class -/
theorem wp_region_mix {id : Nat} {Q : Exit → Act → World → Prop} {a : Act} {w : World} {l : List Oper} (hm : P.follows .mixedOrders = true) (hB : Region.lexB .any l.toArray = true) (hch : Region.chained .any l.toArray = true)
    (hC : C w.drew) (h : WMix P l.toArray C (fun a' w' => Q .normal a' w') l a w.drew) : (Code.region id l.toArray true).wp P Q a w :=
  wp_region_mix' hm hB hch hC h.out
end
end Go
end
