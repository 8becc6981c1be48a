/- Regions that draw their order, whose calls are chained: one walk in the text's order, the calls by what they leave. -/
import Derived.Test.YtipejodijbjpcaaGreatDoorQ34
import Derived.Deep.Quiet
section
namespace Go
section
variable {P : Program} {ops : Array Oper} {md : Region.Mode} {C : World → Prop}

/-- a call of a function -/
def Oper.loud (o : Oper) : Bool :=
  match o.op with
  | .call c => match c.callee with
    | .value _ => true
    | _ => false
  | _ => false
def Oper.readUpon (w : World) (v : Value) : Result Next → Prop
  | .ok (.value u) w' => w' = w ∧ u = v
  | .ok .skip w' => w' = w ∧ v = undef
  | _ => False
def Oper.reads (P : Program) (o : Oper) (a : Act) (C : World → Prop) (K : Act → Prop) : Prop := ∃ v, (∀ w, C w → Oper.readUpon w v ((execOp a.eval o).run P w)) ∧ K (a.put o.dst v)
def Oper.goesUpon (P : Program) (C : World → Prop) (w : World) (K : Value → World → Prop) : Result Next → Prop
  | .ok (.enter f args) w' => w' = w ∧ Calls P f args w (fun e w'' => ∃ v, e = .returned v ∧ C w'' ∧ K v w'')
  | _ => False
def Oper.goes (P : Program) (o : Oper) (a : Act) (w : World) (C : World → Prop) (K : Act → World → Prop) : Prop := Oper.goesUpon P C w (fun v w'' => K (a.put o.dst v) w'') ((execOp a.eval o).run P w)

def wpMix (P : Program) (ops : Array Oper) (C : World → Prop) (Q : Act → World → Prop) : List Oper → Act → World → Prop
  | [], a, w => Q a w
  | o :: rest, a, w => if Region.wanted o (yielded ops a.tmps) then (if o.loud then o.goes P a w C (wpMix P ops C Q rest) else o.reads P a C (fun a' => wpMix P ops C Q rest a' w)) else wpMix P ops C Q rest (a.put o.dst undef) w
def mixOp (P : Program) (ops : Array Oper) (C : World → Prop) (i : Nat) (K : Act → World → Prop) (a : Act) (w : World) : Prop :=
  match ops[i]? with
  | none => K a w
  | some o => if Region.wanted o (yielded ops a.tmps) then (if o.loud then o.goes P a w C K else o.reads P a C (fun a' => K a' w)) else K (a.put o.dst undef) w
theorem Oper.goes_mono {o : Oper} {a : Act} {w : World} {K K' : Act → World → Prop} (h : ∀ a w, C w → K a w → K' a w) (hh : o.goes P a w C K) : o.goes P a w C K' := by
  unfold Oper.goes at *
  generalize (execOp a.eval o).run P w = r at *
  cases r with
  | ok n w' =>
    cases n <;> simp only [Oper.goesUpon] at hh ⊢
    case enter f args =>
      exact ⟨hh.1, hh.2.mono fun e w'' ⟨v, he, hC, hK⟩ => ⟨v, he, hC, h _ _ hC hK⟩⟩
  | halt x w' => simp only [Oper.goesUpon] at hh
theorem mixOp_mono {i : Nat} {a : Act} {w : World} {K K' : Act → World → Prop} (hw : C w) (h : ∀ a w, C w → K a w → K' a w) (hh : mixOp P ops C i K a w) : mixOp P ops C i K' a w := by
  unfold mixOp at *
  split
  · exact h _ _ hw (by simpa [*] using hh)
  · rename_i o ho
    simp only [ho] at hh
    split
    · rename_i hwt
      simp only [hwt, if_true] at hh
      split
      · rename_i hl; simp only [hl, if_true] at hh; exact Oper.goes_mono h hh
      · rename_i hl
        simp only [hl] at hh
        obtain ⟨v, h1, h2⟩ := hh
        exact ⟨v, h1, h _ _ hw h2⟩
    · rename_i hwt; simp only [hwt] at hh; exact h _ _ hw hh
def wpAnyM (P : Program) (md : Region.Mode) (ops : Array Oper) (C : World → Prop) (Q : Act → World → Prop) : Nat → Array Bool → Act → World → Prop
  | 0, listed, a, w => Region.ready md ops listed = [] ∧ Q a w
  | fuel + 1, listed, a, w =>
    (Region.ready md ops listed = [] → Q a w) ∧
    ∀ i ∈ Region.ready md ops listed, mixOp P ops C i (wpAnyM P md ops C Q fuel (listed.setIfInBounds i true)) a w
theorem Oper.wp_of_goes {o : Oper} {a : Act} {w : World} {K : Act → World → Prop} {Q' : Exit → Act → World → Prop} {K' : Act → World → Prop} (h : ∀ a w', C w' → K a w' → K' a w') (hh : o.goes P a w C K) : o.wp P a w K' Q' := by
  unfold Oper.goes at hh
  unfold Oper.wp
  generalize (execOp a.eval o).run P w = r at *
  cases r with
  | ok n w' =>
    cases n <;> simp only [Oper.goesUpon] at hh <;> simp only [Oper.upon]
    case enter f args =>
      obtain ⟨e1, hc⟩ := hh
      rw [e1]
      exact hc.mono fun e w'' ⟨v, he, hC, hK⟩ => by subst he; exact h _ _ hC hK
  | halt x w' => simp only [Oper.goesUpon] at hh
theorem Oper.wp_of_reads {o : Oper} {a : Act} {w : World} {K : Act → Prop} {Q' : Exit → Act → World → Prop} {K' : Act → World → Prop} (hw : C w) (h : ∀ a, K a → K' a w) (hh : o.reads P a C K) : o.wp P a w K' Q' := by
  obtain ⟨v, h1, h2⟩ := hh
  have h3 := h1 w hw
  unfold Oper.wp
  generalize (execOp a.eval o).run P w = r at *
  cases r with
  | ok n w' =>
    cases n <;> simp only [Oper.readUpon] at h3 <;> simp only [Oper.upon]
    case value u =>
      obtain ⟨e1, e2⟩ := h3
      rw [e1, e2]
      exact h _ h2
    case skip =>
      obtain ⟨e1, e2⟩ := h3
      rw [e1, ← e2]
      exact h _ h2
  | halt x w' => simp only [Oper.readUpon] at h3
theorem wpOp_of_mixOp {i : Nat} {a : Act} {w : World} {K K' : Act → World → Prop} {Q' : Exit → Act → World → Prop} (hC : C w) (h : ∀ a w', C w' → K a w' → K' a w') (hh : mixOp P ops C i K a w) : wpOp P ops Q' i K' a w := by
  unfold mixOp at hh
  unfold wpOp
  split
  · rename_i ho; simp only [ho] at hh; exact h _ _ hC hh
  · rename_i o ho
    simp only [ho] at hh
    split
    · rename_i hw
      simp only [hw, if_true] at hh
      left
      by_cases hl : o.loud = true
      · simp only [hl, if_true] at hh; exact Oper.wp_of_goes h hh
      · simp only [hl] at hh; exact Oper.wp_of_reads hC (fun a ha => h _ _ hC ha) hh
    · rename_i hw; simp only [hw] at hh; exact h _ _ hC hh
theorem wpAny_of_mix {Q : Act → World → Prop} {Q' : Exit → Act → World → Prop} (hQ : ∀ a w, C w → Q a w → Q' .normal a w) : ∀ (fuel : Nat) (listed : Array Bool) (a : Act) (w : World), C w →
    wpAnyM P md ops C Q fuel listed a w → wpAny P md ops Q' fuel listed a w
  | 0, _, _, _, hw, h => ⟨h.1, hQ _ _ hw h.2⟩
  | fuel + 1, _, _, _, hw, h => ⟨fun h0 => hQ _ _ hw (h.1 h0), fun i hi => wpOp_of_mixOp hw (fun a' w' hw' => wpAny_of_mix hQ fuel _ a' w' hw') (h.2 i hi)⟩

/-- a quiet operation yields v in state a, in every world of the class; or it is passed over -/
def ReadsIn (P : Program) (ops : Array Oper) (C : World → Prop) (o : Oper) (v : Value) (a : Act) : Prop :=
  (Region.wanted o (yielded ops a.tmps) = true ∧ o.loud = false ∧ ∀ w, C w → Oper.readUpon w v ((execOp a.eval o).run P w)) ∨
  (Region.wanted o (yielded ops a.tmps) = false ∧ v = undef)
theorem ReadsIn.mixOp {i : Nat} {o : Oper} {v : Value} {a : Act} {w : World} (hi : ops[i]? = some o) (hy : ReadsIn P ops C o v a) {K : Act → World → Prop} (h : K (a.put o.dst v) w) : mixOp P ops C i K a w := by
  unfold Go.mixOp
  simp only [hi]
  rcases hy with ⟨hw, hl, hv⟩ | ⟨hw, rfl⟩
  · simp only [hw, hl, if_true]
    exact ⟨v, hv, h⟩
  · simp only [hw]; exact h
theorem ReadsIn.of_same {o : Oper} {v : Value} {a a' : Act} (hy : ReadsIn P ops C o v a) (he : execOp a'.eval o = execOp a.eval o)
    (hw : Region.wanted o (yielded ops a'.tmps) = Region.wanted o (yielded ops a.tmps)) : ReadsIn P ops C o v a' := by
  unfold ReadsIn at *
  rw [he, hw]
  exact hy
/-- one operation apart from another that has yielded its value -/
theorem mixOp_put {j : Nat} {oi oj : Oper} {v : Value} (hj : ops[j]? = some oj) (hap : oi.apart ops oj = true)
    (hsi : ∀ cs b, oi.op ≠ .select cs b) (hsj : ∀ cs b, oj.op ≠ .select cs b) {K : Act → World → Prop} {a : Act} {w : World}
    (hy : ReadsIn P ops C oi v a) (h : mixOp P ops C j K (a.put oi.dst v) w) :
    mixOp P ops C j (fun a' w' => ReadsIn P ops C oi v a' ∧ K (a'.put oi.dst v) w') a w := by
  obtain ⟨h1, h2, h3⟩ := Oper.apart_spec hap
  have keep : ∀ (a : Act), ReadsIn P ops C oi v a → ∀ u, ReadsIn P ops C oi v (a.put oj.dst u) := fun a hy u =>
    hy.of_same (execOp_put oi hsi a oj.dst u h3) (wanted_put oi a oj.dst u h3)
  unfold mixOp at *
  simp only [hj] at *
  rw [wanted_put oj a oi.dst v h1] at h
  split
  · rename_i hw
    simp only [hw, if_true] at h
    split
    · rename_i hl
      simp only [hl, if_true] at h
      unfold Oper.goes at *
      rw [execOp_put oj hsj a oi.dst v h1] at h
      generalize (execOp a.eval oj).run P w = r at *
      cases r with
      | ok n w' =>
        cases n <;> simp only [Oper.goesUpon] at h ⊢
        case enter f args =>
          exact ⟨h.1, h.2.mono fun e w'' ⟨u, he, hC, hK⟩ => ⟨u, he, hC, keep a hy u, by rw [← Act.put_comm a v u h2]; exact hK⟩⟩
      | halt x w' => simp only [Oper.goesUpon] at h
    · rename_i hl
      simp only [hl] at h
      obtain ⟨u, hu, hn⟩ := h
      refine ⟨u, fun w hw' => ?_, keep a hy u, by rw [← Act.put_comm a v u h2]; exact hn⟩
      have := hu w hw'
      rwa [execOp_put oj hsj a oi.dst v h1] at this
  · rename_i hw
    simp only [hw] at h
    exact ⟨keep a hy _, by rw [← Act.put_comm a v undef h2]; exact h⟩
theorem wpAnyM_first {Q : Act → World → Prop} {i : Nat} {oi : Oper} {v : Value} (hi : ops[i]? = some oi) (hsel : ∀ (j : Nat) (o : Oper) cs b, ops[j]? = some o → o.op ≠ .select cs b) :
    ∀ (fuel : Nat) (listed : Array Bool) (a : Act) (w : World), C w →
      (∀ j oj, ops[j]? = some oj → j ≠ i → listed.getD j true = false → (∀ e ∈ oj.after, Region.binds md e = true → e.on ≠ i) → oi.apart ops oj = true) →
      i ∈ Region.ready md ops listed → ReadsIn P ops C oi v a →
      wpAnyM P md ops C Q fuel (listed.setIfInBounds i true) (a.put oi.dst v) w → wpAnyM P md ops C Q (fuel + 1) listed a w := by
  intro fuel
  induction fuel with
  | zero =>
    intro listed a w hC _ hr hy H
    refine ⟨fun h => (by rw [h] at hr; cases hr), fun j hj => ?_⟩
    by_cases hji : j = i
    · subst hji; exact hy.mixOp hi H
    · have := ready_mono hj hji
      rw [H.1] at this
      cases this
  | succ fuel ih =>
    intro listed a w hC hfree hr hy H
    refine ⟨fun h => (by rw [h] at hr; cases hr), fun j hj => ?_⟩
    by_cases hji : j = i
    · subst hji; exact hy.mixOp hi H
    · have h1 := H.2 j (ready_mono hj hji)
      obtain ⟨hjun, oj, hoj, hall⟩ := mem_ready.1 hj
      have hnot : ∀ e ∈ oj.after, Region.binds md e = true → e.on ≠ i := fun e he hb heq => by
        have h1 := hall e he hb
        have h0 := (mem_ready.1 hr).1
        rw [heq] at h1
        rcases Nat.lt_or_ge i listed.size with h' | h'
        · simp [h'] at h0 h1; rw [h0] at h1; cases h1
        · simp [Array.getElem?_eq_none h'] at h1
      have h2 := mixOp_put hoj (hfree j oj hoj hji hjun hnot) (fun cs b => hsel i oi cs b hi) (fun cs b => hsel j oj cs b hoj) hy h1
      have hfree' : ∀ k ok, ops[k]? = some ok → k ≠ i → (listed.setIfInBounds j true).getD k true = false →
          (∀ e ∈ ok.after, Region.binds md e = true → e.on ≠ i) → oi.apart ops ok = true := fun k ok hk hki hun hno => by
        refine hfree k ok hk hki ?_ hno
        by_cases hjk : j = k
        · subst hjk; exact hjun
        · rw [getD_set_ne true hjk] at hun; exact hun
      refine mixOp_mono hC (fun a' w' hC' h3 => ih (listed.setIfInBounds j true) a' w' hC' hfree' (ready_mono hr (Ne.symm hji)) h3.1 ?_) h2
      rw [Array.setIfInBounds_comm _ _ hji]
      exact h3.2

/-! chained calls -/
/-- j waits for i, perhaps by others -/
def Region.waits (md : Region.Mode) (ops : Array Oper) (i : Nat) : Nat → Nat → Bool
  | 0, _ => false
  | n + 1, j => match ops[j]? with
    | none => false
    | some o => o.after.any fun e => Region.binds md e && (e.on == i || Region.waits md ops i n e.on)
/-- each call waits for those ahead of it -/
def Region.chained (md : Region.Mode) (ops : Array Oper) : Bool :=
  (List.range ops.size).all fun i => match ops[i]? with
    | none => true
    | some oi => !oi.loud || (List.range ops.size).all fun j => decide (j ≤ i) || match ops[j]? with
      | none => true
      | some oj => !oj.loud || Region.waits md ops i ops.size j
/-- what is listed has what it waits for listed -/
def Region.closed (md : Region.Mode) (ops : Array Oper) (listed : Array Bool) : Prop :=
  ∀ (k : Nat) (o : Oper), ops[k]? = some o → listed.getD k false = true → ∀ e ∈ o.after, Region.binds md e = true → listed.getD e.on false = true
theorem waits_listed {i : Nat} {listed : Array Bool} (hc : Region.closed md ops listed) : ∀ (n j : Nat), Region.waits md ops i n j = true → (∀ o, ops[j]? = some o → ∀ e ∈ o.after, Region.binds md e = true → listed.getD e.on false = true) → listed.getD i false = true := by
  intro n
  induction n with
  | zero => intro j h; simp [Region.waits] at h
  | succ n ih =>
    intro j h hall
    unfold Region.waits at h
    cases ho : ops[j]? with
    | none => rw [ho] at h; cases h
    | some o =>
      rw [ho] at h
      obtain ⟨e, he, hb⟩ := Array.any_eq_true'.1 h
      simp only [Bool.and_eq_true, Bool.or_eq_true, beq_iff_eq] at hb
      have hl := hall o ho e he hb.1
      rcases hb.2 with h1 | h1
      · rw [← h1]; exact hl
      · exact ih e.on h1 (fun o' ho' e' he' hb' => hc e.on o' ho' hl e' he' hb')
theorem closed_set {j : Nat} {listed : Array Bool} (hc : Region.closed md ops listed) (hj : j ∈ Region.ready md ops listed) : Region.closed md ops (listed.setIfInBounds j true) := by
  obtain ⟨_, o, ho, hall⟩ := mem_ready.1 hj
  intro k ok hk hl e he hb
  refine getD_set_true ?_
  by_cases hjk : j = k
  · subst hjk
    rw [ho] at hk
    cases hk
    exact hall e he hb
  · refine hc k ok hk ?_ e he hb
    rw [getD_set_ne false hjk] at hl
    exact hl
theorem goes_some {o : Oper} {a : Act} {w : World} {K : Act → World → Prop} (h : o.goes P a w C K) : ∃ v w', C w' ∧ K (a.put o.dst v) w' := by
  unfold Oper.goes at h
  generalize (execOp a.eval o).run P w = r at *
  cases r with
  | ok n w' =>
    cases n <;> simp only [Oper.goesUpon] at h
    case enter f args =>
      obtain ⟨e, w'', fr, ⟨v, _, h2, h3⟩, _⟩ := h.2 []
      exact ⟨v, w'', h2, h3⟩
  | halt x w' => simp only [Oper.goesUpon] at h
theorem read_one {w : World} {u v : Value} {r : Result Next} (h : Oper.readUpon w u r) (h' : Oper.readUpon w v r) : u = v := by
  cases r with
  | ok n w' =>
    cases n <;> simp only [Oper.readUpon] at h h'
    · rw [← h.2, ← h'.2]
    · rw [h.2, h'.2]
  | halt x w' => simp only [Oper.readUpon] at h
/-- a quiet operation that is apart from a call that has come back -/
theorem reads_back {j : Nat} {oi oj : Oper} (hj : ops[j]? = some oj) (hjl : oj.loud = false) (hap : oi.apart ops oj = true)
    (hsi : ∀ cs b, oi.op ≠ .select cs b) (hsj : ∀ cs b, oj.op ≠ .select cs b) {K : Act → World → Prop} {a : Act} {w : World}
    (h : oi.goes P a w C (fun a' w' => mixOp P ops C j K a' w')) :
    mixOp P ops C j (fun a' w' => oi.goes P a' w' C K) a w := by
  obtain ⟨h1, h2, h3⟩ := Oper.apart_spec hap
  obtain ⟨v0, w0, hC0, h0⟩ := goes_some h
  unfold mixOp at h0 ⊢
  simp only [hj, hjl] at h0 ⊢
  rw [wanted_put oj a oi.dst v0 h1] at h0
  split
  · rename_i hw
    simp only [hw, if_true] at h0
    obtain ⟨u, hu, _⟩ := h0
    rw [execOp_put oj hsj a oi.dst v0 h1] at hu
    refine ⟨u, hu, ?_⟩
    unfold Oper.goes at h ⊢
    dsimp only
    rw [execOp_put oi hsi a oj.dst u h3]
    generalize (execOp a.eval oi).run P w = r at *
    cases r with
    | ok n w' =>
      cases n <;> simp only [Oper.goesUpon] at h ⊢
      case enter f args =>
        refine ⟨h.1, h.2.mono fun e w'' ⟨v, he, hC, hK⟩ => ⟨v, he, hC, ?_⟩⟩
        unfold mixOp at hK
        simp only [hj, hjl] at hK
        rw [wanted_put oj a oi.dst v h1] at hK
        simp only [hw, if_true] at hK
        obtain ⟨u', hu', hK'⟩ := hK
        rw [execOp_put oj hsj a oi.dst v h1] at hu'
        have e1 := read_one (hu' w'' hC) (hu w'' hC)
        subst e1
        rw [← Act.put_comm a v u' h2]
        exact hK'
    | halt x w' => simp only [Oper.goesUpon] at h
  · rename_i hw
    simp only [hw] at h0
    unfold Oper.goes at h ⊢
    rw [execOp_put oi hsi a oj.dst undef h3]
    generalize (execOp a.eval oi).run P w = r at *
    cases r with
    | ok n w' =>
      cases n <;> simp only [Oper.goesUpon] at h ⊢
      case enter f args =>
        refine ⟨h.1, h.2.mono fun e w'' ⟨v, he, hC, hK⟩ => ⟨v, he, hC, ?_⟩⟩
        unfold mixOp at hK
        simp only [hj, hjl] at hK
        rw [wanted_put oj a oi.dst v h1] at hK
        simp only [hw] at hK
        rw [← Act.put_comm a v undef h2]
        exact hK
    | halt x w' => simp only [Oper.goesUpon] at h
/-- **a call that may come up now may be taken first**, if all other calls wait for it -/
theorem wpAnyM_loud {Q : Act → World → Prop} {i : Nat} {oi : Oper} (hi : ops[i]? = some oi) (hil : oi.loud = true) (hsel : ∀ (j : Nat) (o : Oper) cs b, ops[j]? = some o → o.op ≠ .select cs b) :
    ∀ (fuel : Nat) (listed : Array Bool) (a : Act) (w : World), C w → Region.closed md ops listed →
      (∀ j oj, ops[j]? = some oj → j ≠ i → listed.getD j true = false → (∀ e ∈ oj.after, Region.binds md e = true → e.on ≠ i) → oi.apart ops oj = true) →
      (∀ j oj, ops[j]? = some oj → j ≠ i → listed.getD j true = false → oj.loud = true → Region.waits md ops i ops.size j = true) →
      i ∈ Region.ready md ops listed → Region.wanted oi (yielded ops a.tmps) = true →
      oi.goes P a w C (wpAnyM P md ops C Q fuel (listed.setIfInBounds i true)) → wpAnyM P md ops C Q (fuel + 1) listed a w := by
  intro fuel
  induction fuel with
  | zero =>
    intro listed a w hC _ _ _ hr hwt H
    refine ⟨fun h => (by rw [h] at hr; cases hr), fun j hj => ?_⟩
    by_cases hji : j = i
    · subst hji
      unfold mixOp
      simp only [hi, hwt, hil, if_true]
      exact H
    · obtain ⟨v, w', _, h⟩ := goes_some H
      have := ready_mono hj hji
      rw [h.1] at this
      cases this
  | succ fuel ih =>
    intro listed a w hC hcl hfree hwait hr hwt H
    refine ⟨fun h => (by rw [h] at hr; cases hr), fun j hj => ?_⟩
    by_cases hji : j = i
    · subst hji
      unfold mixOp
      simp only [hi, hwt, hil, if_true]
      exact H
    · obtain ⟨hjun, oj, hoj, hall⟩ := mem_ready.1 hj
      have hiun : listed.getD i false = false := by
        have h0 := (mem_ready.1 hr).1
        rcases Nat.lt_or_ge i listed.size with h' | h'
        · simpa [h'] using h0
        · simp [Array.getElem?_eq_none h']
      have hjl : oj.loud = false := by
        cases hl : oj.loud with
        | false => rfl
        | true =>
          have := waits_listed hcl ops.size j (hwait j oj hoj hji hjun hl) (fun o ho e he hb => by rw [hoj] at ho; cases ho; exact hall e he hb)
          rw [hiun] at this
          cases this
      have hnot : ∀ e ∈ oj.after, Region.binds md e = true → e.on ≠ i := fun e he hb heq => by
        have h1 := hall e he hb
        rw [heq, hiun] at h1
        cases h1
      have hap := hfree j oj hoj hji hjun hnot
      have h1 : oi.goes P a w C (fun a' w' => mixOp P ops C j (wpAnyM P md ops C Q fuel ((listed.setIfInBounds i true).setIfInBounds j true)) a' w') := Oper.goes_mono (fun a' w' _ h => h.2 j (ready_mono hj hji)) H
      have h2 := reads_back hoj hjl hap (fun cs b => hsel i oi cs b hi) (fun cs b => hsel j oj cs b hoj) h1
      have hfree' : ∀ k ok, ops[k]? = some ok → k ≠ i → (listed.setIfInBounds j true).getD k true = false →
          (∀ e ∈ ok.after, Region.binds md e = true → e.on ≠ i) → oi.apart ops ok = true := fun k ok hk hki hun hno => by
        refine hfree k ok hk hki ?_ hno
        by_cases hjk : j = k
        · subst hjk; exact hjun
        · rw [getD_set_ne true hjk] at hun; exact hun
      have hwait' : ∀ k ok, ops[k]? = some ok → k ≠ i → (listed.setIfInBounds j true).getD k true = false → ok.loud = true → Region.waits md ops i ops.size k = true := fun k ok hk hki hun hl => by
        refine hwait k ok hk hki ?_ hl
        by_cases hjk : j = k
        · subst hjk; exact hjun
        · rw [getD_set_ne true hjk] at hun; exact hun
      obtain ⟨_, _, h3⟩ := Oper.apart_spec hap
      have hstep : mixOp P ops C j (fun a' w' => Region.wanted oi (yielded ops a'.tmps) = true ∧ oi.goes P a' w' C (wpAnyM P md ops C Q fuel ((listed.setIfInBounds i true).setIfInBounds j true))) a w := by
        unfold mixOp at h2 ⊢
        simp only [hoj, hjl] at h2 ⊢
        split
        · rename_i hw
          simp only [hw, if_true] at h2
          obtain ⟨u, hu, hk⟩ := h2
          exact ⟨u, hu, by rw [wanted_put oi a oj.dst u h3]; exact hwt, hk⟩
        · rename_i hw
          simp only [hw] at h2
          exact ⟨by rw [wanted_put oi a oj.dst undef h3]; exact hwt, h2⟩
      refine mixOp_mono hC (fun a' w' hC' h4 => ih (listed.setIfInBounds j true) a' w' hC' (closed_set hcl hj) hfree' hwait' (ready_mono hr (Ne.symm hji)) h4.1 ?_) hstep
      rw [Array.setIfInBounds_comm _ _ hji]
      exact h4.2
theorem chained_spec {i j : Nat} {oi oj : Oper} (h : Region.chained md ops = true) (hi : ops[i]? = some oi) (hj : ops[j]? = some oj) (h1 : oi.loud = true) (h2 : oj.loud = true) (hij : i < j) : Region.waits md ops i ops.size j = true := by
  unfold Region.chained at h
  rw [List.all_eq_true] at h
  have h3 := h i (List.mem_range.2 (Array.getElem?_eq_some_iff.1 hi).1)
  simp only [hi, h1, Bool.not_true, Bool.false_or, List.all_eq_true] at h3
  have h4 := h3 j (List.mem_range.2 (Array.getElem?_eq_some_iff.1 hj).1)
  simp only [hj, h2, Bool.not_true, Bool.false_or, Bool.or_eq_true, decide_eq_true_eq] at h4
  rcases h4 with h4 | h4
  · omega
  · exact h4
theorem wpAnyM_lex {Q : Act → World → Prop} (hs : Region.noSelect ops = true) (hch : Region.chained md ops = true) : ∀ (l : List Oper) (k : Nat) (listed : Array Bool) (a : Act) (w : World), C w → (∀ j, l[j]? = ops[k + j]?) →
    Region.closed md ops listed → (∀ j, j < k → j < ops.size → listed.getD j true = true) →
    Region.lexFrom md ops l.length k listed = true → wpMix P ops C Q l a w → wpAnyM P md ops C Q l.length listed a w
  | [], _, _, _, _, _, _, _, _, hB, h => ⟨by simpa [Region.lexFrom] using hB, h⟩
  | o :: l, k, listed, a, w, hC, hl, hcl, hlo, hB, h => by
    have h0 : ops[k]? = some o := by simpa using (hl 0).symm
    simp only [List.length_cons, Region.lexFrom, Bool.and_eq_true] at hB
    obtain ⟨⟨hr, hf⟩, hB'⟩ := hB
    have hr : k ∈ Region.ready md ops listed := by simpa using hr
    have hcl' := closed_set hcl hr
    have hlo' : ∀ j, j < k + 1 → j < ops.size → (listed.setIfInBounds k true).getD j true = true := fun j hj hjs => by
      by_cases hjk : k = j
      · subst hjk
        rcases Nat.lt_or_ge k listed.size with h' | h'
        · simp [h']
        · simp [h']
      · rw [getD_set_ne true hjk]; exact hlo j (by omega) hjs
    have hrec : ∀ a' w', C w' → wpMix P ops C Q l a' w' → wpAnyM P md ops C Q l.length (listed.setIfInBounds k true) a' w' := fun a' w' hC' h' =>
      wpAnyM_lex hs hch l (k + 1) _ a' w' hC' (fun j => by have := hl (j + 1); simpa [Nat.add_assoc, Nat.add_comm 1 j] using this) hcl' hlo' hB' h'
    rw [wpMix] at h
    by_cases hw : Region.wanted o (yielded ops a.tmps) = true
    · rw [if_pos hw] at h
      by_cases hl2 : o.loud = true
      · rw [if_pos hl2] at h
        refine wpAnyM_loud h0 hl2 (Region.noSelect_spec hs) l.length listed a w hC hcl (Region.free_spec h0 hf) (fun j oj hj hjk hun hjl => ?_) hr hw (Oper.goes_mono hrec h)
        have hjs := (Array.getElem?_eq_some_iff.1 hj).1
        have hlt : k < j := by
          rcases Nat.lt_or_ge k j with q | q
          · exact q
          · have := hlo j (by omega) hjs
            rw [hun] at this; cases this
        exact chained_spec hch h0 hj hl2 hjl hlt
      · rw [if_neg hl2] at h
        obtain ⟨v, hv, hK⟩ := h
        exact wpAnyM_first h0 (Region.noSelect_spec hs) l.length listed a w hC (Region.free_spec h0 hf) hr (.inl ⟨hw, by simpa using hl2, hv⟩) (hrec _ _ hC hK)
    · rw [if_neg hw] at h
      exact wpAnyM_first h0 (Region.noSelect_spec hs) l.length listed a w hC (Region.free_spec h0 hf) hr (.inr ⟨by simpa using hw, rfl⟩) (hrec _ _ hC h)
theorem closed_none (n : Nat) : Region.closed md ops (Array.replicate n false) := by
  intro k o _ h
  simp [Array.getElem?_replicate] at h
  split at h <;> simp at h
/-- **one walk in the text's order**, the calls by what they leave -/
theorem wp_region_mix' {id : Nat} {Q : Exit → Act → World → Prop} {a : Act} {w : World} {l : List Oper} (hm : P.follows .mixedOrders = true) (hB : Region.lexB .any l.toArray = true) (hch : Region.chained .any l.toArray = true)
    (hC : C w.drew) (h : wpMix P l.toArray C (fun a' w' => Q .normal a' w') l a w.drew) : (Code.region id l.toArray true).wp P Q a w := by
  simp only [Region.lexB, Bool.and_eq_true] at hB
  refine wp_region_any hm (wpAny_of_mix (C := C) (Q := fun a' w' => Q .normal a' w') (fun _ w' _ h => h) _ _ _ _ hC ?_)
  have := wpAnyM_lex (P := P) (C := C) (md := .any) hB.1 hch l 0 (Array.replicate l.toArray.size false) a _ hC (by simp) (closed_none _) (fun j hj => by omega) (by simpa using hB.2) h
  simpa using this
end
end Go
end
