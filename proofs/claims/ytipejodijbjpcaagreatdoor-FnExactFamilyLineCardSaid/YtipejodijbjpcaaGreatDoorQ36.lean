/- Steps of a walk through a region with chained calls. The line of a function: the second program. The walk of l15Put. Traces of families, shattered sets, the dimension: the second program. -/
import Derived.Test.YtipejodijbjpcaaGreatDoorQ35
import Derived.Deep.DeepCutAuto
import Derived.Deep.RegionHeld3
import Derived.Deep.AppendLies
import Derived.Lib.MinMax
section
namespace Go
section
variable {P : Program} {ops : Array Oper} {C : World → Prop} {Q : Act → World → Prop}
/-- operations that call nothing -/
def Oper.tame (o : Oper) : Bool :=
  match o.op with
  | .move _ | .assign _ | .pick _ _ _ | .load _ _ | .binOp _ _ _ _ _ | .unOp _ _ _ | .convert _ _ _ | .fieldAddr _ _ _ | .field _ _ _ | .indexAddr _ _ _ | .index _ _ _ | .slice _ _ _ _ _ | .extract _ _ | .build _ _ => true
  | .call c => match c.callee with
    | .builtin .len | .builtin .min | .builtin .max => true
    | _ => false
  | _ => false
theorem value_only (s : Sem Value) (w : World) (f : FuncId) (args : Array Value) (w' : World) : (do pure (Next.value (← s)) : Sem Next).run P w ≠ .ok (.enter f args) w' := by
  simp only [Sem.run_bind, Sem.run_pure]
  cases s.run P w with
  | ok v w1 => simp [Result.andThen]
  | halt x w1 => simp [Result.andThen]
theorem bool_only (s : Sem Bool) (F : Bool → Value) (w : World) (f : FuncId) (args : Array Value) (w' : World) : (do pure (Next.value (F (← s))) : Sem Next).run P w ≠ .ok (.enter f args) w' := by
  simp only [Sem.run_bind, Sem.run_pure]
  cases s.run P w with
  | ok v w1 => simp [Result.andThen]
  | halt x w1 => simp [Result.andThen]
theorem Oper.tame_enter {o : Oper} (h : o.tame = true) (ρ : Operand → Value) (w : World) (f : FuncId) (args : Array Value) (w' : World) : (execOp ρ o).run P w ≠ .ok (.enter f args) w' := by
  unfold Oper.tame at h
  unfold execOp
  split at h <;> rename_i ho <;> simp only [ho]
  case h_1 => simp
  case h_2 => simp
  case h_3 => exact bool_only _ (fun b => if b = true then _ else _) _ _ _ _
  case h_4 => exact value_only _ _ _ _ _
  case h_5 => exact value_only _ _ _ _ _
  case h_6 => exact value_only _ _ _ _ _
  case h_7 => exact value_only _ _ _ _ _
  case h_8 => exact value_only _ _ _ _ _
  case h_9 => exact value_only _ _ _ _ _
  case h_10 => exact value_only _ _ _ _ _
  case h_11 => exact value_only _ _ _ _ _
  case h_12 => exact value_only _ _ _ _ _
  case h_13 => exact value_only _ _ _ _ _
  case h_14 => exact value_only _ _ _ _ _
  case h_15 =>
    rename_i c
    split at h
    · rename_i hc
      simp only [resolve, hc, Sem.run_bind, Sem.run_pure, Result.andThen, invoke, builtin]
      split <;> simp
    · rename_i hc
      simp only [resolve, hc, Sem.run_bind, Sem.run_pure, Result.andThen, invoke, builtin]
      split <;> simp
    · rename_i hc
      simp only [resolve, hc, Sem.run_bind, Sem.run_pure, Result.andThen, invoke, builtin]
      split <;> simp
    · cases h
  case h_16 => cases h
theorem Oper.tame_quiet {o : Oper} (h : o.tame = true) : o.loud = false := by
  unfold Oper.tame at h
  unfold Oper.loud
  split
  · rename_i c hc
    simp only [hc] at h
    split
    · rename_i hv
      simp only [hv] at h
      cases h
    · rfl
  · rfl
theorem Oper.reads_of_quiet {o : Oper} {a : Act} {K : Act → Prop} (h : o.tame = true) (hq : o.quiet P a C K) : o.reads P a C K := by
  obtain ⟨v, h1, h2⟩ := hq
  refine ⟨v, fun w hw => ?_, h2⟩
  have h3 := h1 w hw
  have h4 := Oper.tame_enter (P := P) h a.eval w
  unfold Oper.quietAt at h3
  generalize (execOp a.eval o).run P w = r at *
  cases r with
  | ok n w' =>
    cases n <;> simp only [Oper.quietUpon, Oper.readUpon] at h3 ⊢
    case value u => exact h3
    case skip => exact h3
    case enter f args => exact h4 f args w' rfl
  | halt x w' => simp only [Oper.quietUpon] at h3
/-- the walk behind a name that does not unfold by itself -/
structure WMix (P : Program) (ops : Array Oper) (C : World → Prop) (Q : Act → World → Prop) (l : List Oper) (a : Act) (w : World) : Prop where
  out : wpMix P ops C Q l a w
theorem wpQuiet_to {K K' : Act → Prop} (h : ∀ a, K a → K' a) {o : Oper} {a : Act} (hq : wpQuiet P ops C K [o] a) : wpQuiet P ops C K' [o] a := by
  rw [wpQuiet] at hq ⊢
  split
  · rename_i hw
    rw [if_pos hw] at hq
    obtain ⟨v, h1, h2⟩ := hq
    exact ⟨v, h1, h _ h2⟩
  · rename_i hw
    rw [if_neg hw] at hq
    exact h _ hq
theorem wpMix_tame' {a : Act} {w : World} {o : Oper} {rest : List Oper} (h : o.tame = true) (hq : wpQuiet P ops C (fun a' => wpMix P ops C Q rest a' w) [o] a) : wpMix P ops C Q (o :: rest) a w := by
  rw [wpQuiet] at hq
  rw [wpMix]
  split
  · rename_i hw
    rw [if_pos hw] at hq
    rw [if_neg (by rw [Oper.tame_quiet h]; simp)]
    exact Oper.reads_of_quiet h hq
  · rename_i hw
    rw [if_neg hw] at hq
    exact hq
theorem wpMix_tame {a : Act} {w : World} {o : Oper} {rest : List Oper} (h : o.tame = true) (hq : wpQuiet P ops C (fun a' => WMix P ops C Q rest a' w) [o] a) : WMix P ops C Q (o :: rest) a w :=
  ⟨wpMix_tame' h (wpQuiet_to (fun _ h => h.out) hq)⟩
theorem wpMix_skip {a : Act} {w : World} {o : Oper} {rest : List Oper} (h : Region.wanted o (yielded ops a.tmps) = false) (hq : wpQuiet P ops C (fun a' => WMix P ops C Q rest a' w) [o] a) : WMix P ops C Q (o :: rest) a w := by
  rw [wpQuiet, if_neg (by rw [h]; simp)] at hq
  refine ⟨?_⟩
  rw [wpMix, if_neg (by rw [h]; simp)]
  exact WMix.out hq
theorem wpMix_nil {a : Act} {w : World} (h : Q a w) : WMix P ops C Q [] a w := ⟨h⟩
theorem goes_of_wp {o : Oper} {a : Act} {w : World} {K : Act → World → Prop} {f : FuncId} {args : Array Value} (he : (execOp a.eval o).run P w = .ok (.enter f args) w) (h : Calls P f args w fun e w'' => ∃ v, e = .returned v ∧ C w'' ∧ K (a.put o.dst v) w'') : o.goes P a w C K := by
  unfold Oper.goes
  rw [he]
  exact ⟨rfl, h⟩
/-- a call of a function by its number -/
theorem wpMix_call {a : Act} {w : World} {o : Oper} {rest : List Oper} (f : FuncId) (xs : Array Operand) (ts : Array TypeId) (ho : o.op = .call { callee := .value (.func f), args := xs, argTypes := ts }) (hent : ∀ args w, (callFunc f args).run P w = .ok (.enter f args) w)
    (hw : Region.wanted o (yielded ops a.tmps) = true) (h : ∀ K : Act → World → Prop, (∀ a' w', C w' → WMix P ops C Q rest a' w' → K a' w') → Calls P f (xs.map a.eval) w fun e w'' => ∃ v, e = .returned v ∧ K (a.put o.dst v) w'') : WMix P ops C Q (o :: rest) a w := by
  refine ⟨?_⟩
  rw [wpMix, if_pos hw, if_pos (by unfold Oper.loud; rw [ho])]
  have h1 := h (fun a' w' => C w' ∧ WMix P ops C Q rest a' w') (fun a' w' h1 h2 => ⟨h1, h2⟩)
  refine goes_of_wp (f := f) (args := xs.map a.eval) ?_ (h1.mono fun e w'' ⟨v, he, hC, hk⟩ => ⟨v, he, hC, hk.out⟩)
  unfold execOp
  simp only [ho, resolve, Sem.run_bind]
  have e := hent (xs.map a.eval) w
  simp [Act.eval, Deferred.ofValue, Sem.run_pure, Result.andThen, invoke, go_sem]
  exact e
/-- the region: its calls are chained, each leaves a world of the class -/
theorem wp_region_mix {id : Nat} {Q : Exit → Act → World → Prop} {a : Act} {w : World} {l : List Oper} (hm : P.follows .mixedOrders = true) (hB : Region.lexB .any l.toArray = true) (hch : Region.chained .any l.toArray = true)
    (hC : C w.drew) (h : WMix P l.toArray C (fun a' w' => Q .normal a' w') l a w.drew) : (Code.region id l.toArray true).wp P Q a w :=
  wp_region_mix' hm hB hch hC h.out
end
end Go
end
section
namespace Go.Proofs.YtipejodijbjpcaaGreatDoor
open Go.RowKit Go.G5

theorem yesS_any (b : Bool) (x : ByteArray) (w : World) :
    Calls Tryz.prog 82 #[.bool b, .string x] w fun e w' => e = .returned (.string (yesT b x)) ∧ w = w' := by
  cases b
  · go_enter Tryz.func82, Tryz.ntmps82
    go_wp2
    go_ret
    exact ⟨rfl, rfl⟩
  · go_enter Tryz.func82, Tryz.ntmps82
    go_wp2
    go_ret
    exact ⟨rfl, rfl⟩

end Go.Proofs.YtipejodijbjpcaaGreatDoor
end
section
namespace Go.Proofs.YtipejodijbjpcaaGreatDoor
open Go.RowKit Go.G5

set_option maxHeartbeats 4000000 in
set_option maxRecDepth 100000 in
theorem l15Put_any (B : Nat) (l : List Int) (v : Value) (x : Int) (w : World) (hown : OwnI 3 B w v l) (hB : B ≤ w.heap.size) (hasc : l.Pairwise (· < ·)) (hl : l.length ≤ 1048576) (hx : InR x) :
    Calls Tryz.prog 305 #[v, .int .i64 x] w fun e w' => ∃ ad i cp, e = .returned (.slice ad i cp) ∧ OwnI 3 B w' (.slice ad i cp) (putL l x) ∧ Below w.heap.size w w' ∧ (∀ k, (Value.slice ad i cp).ownBlock = some k → v.ownBlock = some k ∨ w.heap.size ≤ k) := by
  have hv := hown.ints
  have hv0 := hv
  obtain ⟨a, b, off, c, rfl, hlen, hix, hc, hb⟩ := hv.view Tryz.prog 22 3 Tryz.underlying22 intElem
  have HA := Lib.hid hasc
  clear hasc
  go_enter Tryz.func305, Tryz.ntmps305
  go_wp2
  go_loop [5] (fun i => ∃ k : Nat, k ≤ l.length ∧ i = .int .i64 k ∧ ∀ y ∈ l.drop k, x < y) (fun i => (intOf i).toNat)
  case atStart => exact ⟨l.length, Nat.le_refl _, rfl, by simp⟩
  case round =>
    obtain ⟨k, hk, rfl, hab⟩ := hrel
    have HAB := Lib.hid hab
    clear hab
    have fin : ∀ (hz : (∀ y ∈ l.take k, y < x)), putL l x = (([] ++ l.take k) ++ [x]) ++ l.drop k := fun hz => put_new l x k HA.out HAB.out hz
    obtain ⟨u1, u2⟩ := hv0.upto 22 3 Tryz.underlying22 intElem k hk
    obtain ⟨a', c', d1, d2⟩ := hv0.from 22 3 Tryz.underlying22 intElem k hk
    have FIN := Lib.hid fin
    have zk : (l.take k).length = k := by rw [List.length_take, Nat.min_eq_left hk]
    have zd : (l.drop k).length = l.length - k := List.length_drop
    rw [zd] at d1 d2
    clear zk zd
    clear fin
    by_cases hz : (0 : Int) < k
    · have hj : k - 1 < l.length := by omega
      have hcj := hc (k - 1) hj
      have hixj := fun W => hix W (k - 1) hj
      obtain ⟨y, hy⟩ : ∃ y, y = l[k - 1] := ⟨_, rfl⟩
      rw [← hy] at hcj
      have hk1 : IntKind.i64.wrap ((k : Int) - 1) = ((k - 1 : Nat) : Int) := by rw [IntWalk.i64_in _ ⟨by omega, by omega⟩]; omega
      have HY := Lib.hid hy
      clear hy hix hc
      rcases Int.lt_trichotomy x y with hlt | heq | hgt
      · have hge : x < y := hlt
        go_wp2
        go_round
        case rel =>
          refine ⟨k - 1, by omega, by go_num, ?_⟩
          have := drop_above l x (k - 1) hj (by rw [show k - 1 + 1 = k by omega]; exact HAB.out) (by rw [← HY.out]; exact hlt)
          exact this
        case measure => simp [intOf]; omega
      · subst heq
        have hput := put_have l x HA.out (by rw [HY.out]; exact List.getElem_mem hj)
        have HPUT := Lib.hid hput
        clear hput
        go_wp2
        go_ret
        exact ⟨a, l.length, c, rfl, by rw [HPUT.out]; exact hown, Below.refl _ _, fun _ h => .inl h⟩
      · have hn : ¬ x < y := by omega
        have hne : (y == x) = false := by simp; omega
        have hp := FIN.out (by
          have := take_below l x (k - 1) HA.out hj (by rw [← HY.out]; exact hgt)
          rw [show k - 1 + 1 = k by omega] at this
          exact this)
        have HP := Lib.hid hp
        clear hp
        go_wp2
        go_region_held3 (fun _ => True) (trivial)
          (first
            | (refine step_put rfl _ _ _ rfl 3 Tryz.underlying22 intElem w.heap.size (.slice (some ⟨_, 0, none⟩) 0 0) [] rfl (.slice a k c) (l.take k) rfl ?_ ?_ ?_ w ?_ (Nat.le_refl _) ?_; (first | (with_reducible exact (OwnI.lit0 w (Nat.le_refl _)).drew') | (with_reducible exact ((OwnI.lit0 w (Nat.le_refl _)).alloc _).drew') | (with_reducible exact (OwnI.lit0' w _).drew')); (first | (with_reducible exact (u2.alloc _).drew') | (with_reducible exact ((u2.alloc _).alloc _).drew')); (simp; omega); (first | (with_reducible exact (bl1 w _).drew) | (with_reducible exact (bl2 w _ _).drew)); (intro v1 w1 o1 b1 pc))
            | (refine step_put rfl _ _ _ rfl 3 Tryz.underlying22 intElem w.heap.size v1 ([] ++ l.take k) rfl (.slice (some ⟨_, 0, none⟩) 1 1) [x] rfl ?_ ?_ ?_ w ?_ (Nat.le_refl _) ?_; (first | (with_reducible exact o1) | (with_reducible exact o1.alloc _)); (refine Ints.one ?_ hx; first | (with_reducible exact cell_new _ _ _ _ _ rfl) | (with_reducible exact pc _ _ (cell_second _ _ _ _) (own_ne1 _ _ _)) | (with_reducible exact pc _ _ (cell_first _ _ _ _) (own_ne2 _ _ _))); (simp; omega); (first | (with_reducible exact b1) | (with_reducible exact b1.alloc b1.size _)); (intro v2 w2 o2 b2 _))
            | (refine step_put rfl _ _ _ rfl 3 Tryz.underlying22 intElem w.heap.size v2 (([] ++ l.take k) ++ [x]) rfl (.slice a' (l.length - k) c') (l.drop k) rfl o2 (d2.below b2 (Nat.le_refl _)) ?_ w b2 (Nat.le_refl _) ?_; (simp; omega); (intro v3 w3 o3 b3 _; obtain ⟨av, nv, cv, rfl⟩ := o3.shape3))
          )
        all_goals
          go_wp2
          go_ret
          exact ⟨av, nv, cv, rfl, by rw [HP.out]; exact o3.mono hB, b3, fun _ h => .inr (o3.lt _ h).1⟩
    · have hp := FIN.out (by intro y hy; have : k = 0 := by omega
                             subst this; simp at hy)
      have HP := Lib.hid hp
      clear hp
      go_wp2
      go_region_held3 (fun _ => True) (trivial)
        (first
          | (refine step_put rfl _ _ _ rfl 3 Tryz.underlying22 intElem w.heap.size (.slice (some ⟨_, 0, none⟩) 0 0) [] rfl (.slice a k c) (l.take k) rfl ?_ ?_ ?_ w ?_ (Nat.le_refl _) ?_; (first | (with_reducible exact (OwnI.lit0 w (Nat.le_refl _)).drew') | (with_reducible exact ((OwnI.lit0 w (Nat.le_refl _)).alloc _).drew') | (with_reducible exact (OwnI.lit0' w _).drew')); (first | (with_reducible exact (u2.alloc _).drew') | (with_reducible exact ((u2.alloc _).alloc _).drew')); (simp; omega); (first | (with_reducible exact (bl1 w _).drew) | (with_reducible exact (bl2 w _ _).drew)); (intro v1 w1 o1 b1 pc))
          | (refine step_put rfl _ _ _ rfl 3 Tryz.underlying22 intElem w.heap.size v1 ([] ++ l.take k) rfl (.slice (some ⟨_, 0, none⟩) 1 1) [x] rfl ?_ ?_ ?_ w ?_ (Nat.le_refl _) ?_; (first | (with_reducible exact o1) | (with_reducible exact o1.alloc _)); (refine Ints.one ?_ hx; first | (with_reducible exact cell_new _ _ _ _ _ rfl) | (with_reducible exact pc _ _ (cell_second _ _ _ _) (own_ne1 _ _ _)) | (with_reducible exact pc _ _ (cell_first _ _ _ _) (own_ne2 _ _ _))); (simp; omega); (first | (with_reducible exact b1) | (with_reducible exact b1.alloc b1.size _)); (intro v2 w2 o2 b2 _))
          | (refine step_put rfl _ _ _ rfl 3 Tryz.underlying22 intElem w.heap.size v2 (([] ++ l.take k) ++ [x]) rfl (.slice a' (l.length - k) c') (l.drop k) rfl o2 (d2.below b2 (Nat.le_refl _)) ?_ w b2 (Nat.le_refl _) ?_; (simp; omega); (intro v3 w3 o3 b3 _; obtain ⟨av, nv, cv, rfl⟩ := o3.shape3))
        )
      all_goals
        go_wp2
        go_ret
        exact ⟨av, nv, cv, rfl, by rw [HP.out]; exact o3.mono hB, b3, fun _ h => .inr (o3.lt _ h).1⟩
end Go.Proofs.YtipejodijbjpcaaGreatDoor
end
section
namespace Go.Proofs.YtipejodijbjpcaaGreatDoor
open Go.RowKit Go.G5

theorem gather_nil0 : gatherL [] = [] := by simp [gatherL]; rfl

set_option maxHeartbeats 1000000 in
set_option maxRecDepth 100000 in
theorem tracesS_any (w : World) (v : Value) (l : List Int) (hv : Ints w v l) (hm : ∀ x ∈ l, 0 ≤ x ∧ x < 64) (hl : l.length ≤ 64) (s : Int) (hs : 0 ≤ s ∧ s < 64) :
    Calls Tryz.prog 217 #[v, .int .i64 s] w fun e w' => ∃ ad i c, e = .returned (.slice ad i c) ∧ OwnI 3 w.heap.size w' (.slice ad i c) (trL l s) ∧ Below w.heap.size w w' := by
  obtain ⟨a, b, off, c, rfl, hlen, hix, hc, hb⟩ := hv.view Tryz.prog 22 3 Tryz.underlying22 intElem
  have HC := Lib.hid hc
  have HIX := Lib.hid hix
  have HM := Lib.hid hm
  have o0 := OwnI.lit0 (E := 3) (B := w.heap.size) w (Nat.le_refl _)
  clear hc hix hm
  go_enter Tryz.func217, Tryz.ntmps217
  go_wp2_with fail
  go_loopw [5, 6] (fun ov iv wr => ∃ (j : Nat) (p : Option Addr) (r m : Nat), j ≤ l.length ∧ iv = .int .i64 j ∧ ov = .slice p r m ∧ OwnI 3 w.heap.size wr (.slice p r m) (gatherL ((l.take j).map fun t => iand s t)) ∧ Below w.heap.size w wr) (fun _ iv _ => l.length - (intOf iv).toNat)
  case atStart =>
    refine ⟨0, _, _, _, Nat.zero_le _, rfl, rfl, ?_, bl1 _ _⟩
    have e0 : gatherL ((l.take 0).map fun t => iand s t) = [] := by rw [List.take_zero, List.map_nil]; exact gather_nil0
    rw [e0]; exact o0
  case round =>
    obtain ⟨j, p, r, m, hj, rfl, rfl, own, Bw⟩ := hrel
    clear o0
    have HOWN := Lib.hid own
    have zw := Bw.size
    clear own
    by_cases hlt : j < l.length
    · have hlt2 : (j : Int) < (l.length : Int) := by omega
      have ck := cells_below HC.out hb Bw (Nat.le_refl _) j hlt
      have ik := fun W => HIX.out W j hlt
      have hx := HM.out _ (List.getElem_mem hlt)
      have hpt := put_trace l s j hlt
      obtain ⟨x, hxe⟩ : ∃ x, x = l[j] := ⟨_, rfl⟩
      rw [← hxe] at ck hx hpt
      have hand := iand_is hx.1 (show x < 4611686018427387904 by omega) hs.1 (show s < 4611686018427387904 by omega)
      rw [iand_comm x s] at hand
      have hyb := iand_bd64 s x hs.1 hs.2
      have hln : (gatherL ((l.take j).map fun t => iand s t)).length ≤ 1048576 := by
        refine Nat.le_trans (gather64 _ ?_).2 (by omega)
        intro y hy
        obtain ⟨t, _, rfl⟩ := List.mem_map.1 hy
        exact iand_bd64 s t hs.1 hs.2
      obtain ⟨y, hy⟩ : ∃ y, y = iand s x := ⟨_, rfl⟩
      rw [← hy] at hand hyb hpt
      have hput := l15Put_any w.heap.size _ _ y wr HOWN.out zw (gatherL_asc _) hln ⟨by omega, by omega⟩
      rw [hpt] at hput
      have HPUT := Lib.hid hput
      clear hxe hy hpt hput hln
      go_wp2_with fail
      refine HPUT.out.mono ?_
      rintro e w5 ⟨p5, i5, q5, rfl, o5, b5, _⟩
      go_wp2
      go_roundw
      case rel => exact ⟨j + 1, p5, i5, q5, by omega, by go_num, rfl, o5, Bw.after b5 Bw.size⟩
      case measure => simp [intOf]; omega
    · have hlt2 : ¬ (j : Int) < (l.length : Int) := by omega
      have hT : trL l s = gatherL ((l.take j).map fun t => iand s t) := by rw [List.take_of_length_le (by omega)]; rfl
      have HT := Lib.hid hT
      clear hT
      go_wp2
      go_ret
      exact ⟨_, _, _, rfl, by rw [HT.out]; exact HOWN.out, Bw⟩

set_option maxHeartbeats 1000000 in
set_option maxRecDepth 100000 in
theorem isShatS_any (w : World) (N : Nat) (v : Value) (l : List Int) (hv : Ints w v l) (hf : isFamB (N : Int) l = true) (s : Nat) (hs : s < 2 ^ N) :
    Calls Tryz.prog 304 #[.agg #[.int .i64 (N : Int), v], .int .i64 (s : Int)] w fun e w' => e = .returned (.bool (shB l s)) ∧ Below w.heap.size w w' := by
  obtain ⟨h0, h6, hq1, hq2⟩ := famOk hf
  have hN : N ≤ 6 := by omega
  have h64 : (2 : Nat) ^ N ≤ 2 ^ 6 := Nat.pow_le_pow_right (by decide) hN
  have hpe : ((2 : Int) ^ N) = ((2 ^ N : Nat) : Int) := by simp
  obtain ⟨a, c, rfl⟩ := hv.shape
  have K0 := Blk.new w 27 #[.int .i64 (N : Int), .slice a l.length c]
  have hfm := isFamS_any (N : Int) l _ _ (hv.alloc (.cells #[.int .i64 (N : Int), .slice a l.length c] 27))
  rw [hf] at hfm
  have htr := fun (W : World) (h : Ints W (.slice a l.length c) l) => tracesS_any W _ l h (fam_mem hf) (fam_len hf) (s : Int) ⟨by omega, by omega⟩
  have hin : inB (s : Int) 0 (2 ^ N - 1) = true := inB_true.2 ⟨by omega, by rw [hpe]; omega⟩
  have hl1 := fun W => l1In_any (s : Int) 0 (2 ^ N - 1) W
  simp only [hin] at hl1
  have hpg := pop_g N (by omega) s hs
  have hx : shB l s = ((trL l (s : Int)).length == 2 ^ pop s) := rfl
  have HSZ := Lib.hid (fun W => l2Size_any s W (by omega))
  have HFU := Lib.hid (fun W => l2Full_any N W (by omega))
  obtain ⟨T, hT⟩ : ∃ T, T = trL l (s : Int) := ⟨_, rfl⟩
  simp only [← hT] at htr
  rw [← hT] at hx
  obtain ⟨p, hp⟩ : ∃ p, p = pop s := ⟨_, rfl⟩
  rw [← hp] at hpg hx
  simp only [← hp] at HSZ
  have hpp := two_pow p 6 (by omega)
  have hp1 := hpp.1
  have hp2 := hpp.2
  simp at hp1
  have hbq : ((T.length : Int) == (2 : Int) ^ p) = (T.length == 2 ^ p) := by
    have e : ((2 : Int) ^ p) = ((2 ^ p : Nat) : Int) := by simp
    rw [e, Bool.eq_iff_iff, beq_iff_eq, beq_iff_eq]; omega
  have hwp : IntKind.i64.wrap ((2 : Int) ^ p) = 2 ^ p := by rw [IntKind.wrap_i64]; omega
  rw [← hbq] at hx
  have HX := Lib.hid hx
  have HTR := Lib.hid htr
  have HFM := Lib.hid hfm
  have HL1 := Lib.hid hl1
  have hp6 : p ≤ 6 := by omega
  clear hx htr hT hp hpg hpe hf hq1 hq2 hbq hpp h64 hs hfm hin hl1
  go_enter Tryz.func304, Tryz.ntmps304
  go_wp2_with fail
  refine HFM.out.mono ?_
  rintro e w1 ⟨rfl, b1⟩
  have B1 : Below w.heap.size w w1 := (bl1 _ _).after b1 (by simp)
  have G := (K0.keep b1).cell
  go_wp2_with (first | (go_at_call 187; refine (HFU.out _).mono ?_; rintro e w' ⟨rfl, rfl⟩) | (go_at_call 188; refine (HL1.out _).mono ?_; rintro e w' ⟨rfl, rfl⟩))
  refine (HTR.out w1 (hv.below B1 (Nat.le_refl _))).mono ?_
  rintro e w2 ⟨p2, i2, q2, rfl, o2, b2⟩
  have hi2 : i2 = T.length := o2.ints.capLe.1
  subst hi2
  go_wp2_with (go_at_call 173; refine (HSZ.out _).mono ?_; rintro e w' ⟨rfl, rfl⟩)
  go_ret
  exact ⟨ret_bool HX.out.symm, B1.after b2 B1.size⟩

set_option maxHeartbeats 1000000 in
set_option maxRecDepth 100000 in
theorem shatSetsS_any (w : World) (g : Int) (v : Value) (l : List Int) (hv : Ints w v l) (hf : isFamB g l = true) :
    Calls Tryz.prog 216 #[.agg #[.int .i64 g, v]] w fun e w' => ∃ ad i c, e = .returned (.tuple #[.agg #[.int .i64 g, .slice ad i c], .bool true]) ∧ Ints w' (.slice ad i c) (shaL g l) ∧ Below w.heap.size w w' := by
  obtain ⟨a, c, rfl⟩ := hv.shape
  obtain ⟨h0, h6, hq1, hq2⟩ := famOk hf
  obtain ⟨N, rfl⟩ := Int.eq_ofNat_of_zero_le h0
  have hN : N ≤ 6 := by omega
  have h64 : (2 : Nat) ^ N ≤ 2 ^ 6 := Nat.pow_le_pow_right (by decide) hN
  have hpp := two_pow N 6 hN
  have hp1 := hpp.1
  have hp2 := hpp.2
  simp at hp1
  have hcast : ((2 : Int) ^ N) = ((2 ^ N : Nat) : Int) := by simp
  have hwp : IntKind.i64.wrap ((2 : Int) ^ N) = 2 ^ N := by rw [IntKind.wrap_i64]; omega
  have hx : shaL (N : Int) l = chosen (shB l) (2 ^ N) := by unfold shaL; rw [hf, Int.toNat_natCast]; rfl
  obtain ⟨V, hV⟩ : ∃ V, V = (w.alloc (.cells #[.int .i64 (N : Int), .slice a l.length c] 27)).alloc (.cells #[.int .i64 0, .slice none 0 0] 27) := ⟨_, rfl⟩
  have B : Below w.heap.size w V := by rw [hV]; exact bl2 _ _ _
  have K1 : Blk V w.heap.size 27 #[.int .i64 (N : Int), .slice a l.length c] := by rw [hV]; exact (Blk.new _ _ _).alloc _
  have K2 : Blk V (w.heap.size + 1) 27 #[.int .i64 0, .slice none 0 0] := by rw [hV]; have := Blk.new (w.alloc (.cells #[.int .i64 (N : Int), .slice a l.length c] 27)) 27 #[.int .i64 0, .slice none 0 0]; simpa using this
  have o0 := OwnI.lit0 (E := 3) (B := V.heap.size) V (Nat.le_refl _)
  have hfm := fun (W : World) (h : Ints W (.slice a l.length c) l) => isFamS_any (N : Int) l _ W h
  simp only [hf] at hfm
  have hsh := fun (W : World) (s : Nat) (hs : s < 2 ^ N) (h : Ints W (.slice a l.length c) l) => isShatS_any W N _ l h hf s hs
  have z1 := K1.lt
  have z2 := K2.lt
  have hVs : V.heap.size = w.heap.size + 1 + 1 := by rw [hV]; simp
  obtain ⟨M, hM⟩ : ∃ M, M = 2 ^ N := ⟨_, rfl⟩
  have hMi : ((2 : Int) ^ N) = (M : Int) := by rw [hcast, hM]
  rw [← hM] at hx h64 hsh
  have HV := Lib.hid hV
  have HX := Lib.hid hx
  have HFM := Lib.hid hfm
  have HSH := Lib.hid hsh
  have HMI := Lib.hid hMi
  clear hV hfm hsh hf hq1 hq2 hx hcast hM hMi hpp
  go_enter Tryz.func216, Tryz.ntmps216
  go_wp2_with fail
  rw [HV.out.symm]
  go_loopw [4, 5] (fun ov iv wr => ∃ (j : Nat) (p : Option Addr) (r m : Nat), j ≤ M ∧ iv = .int .i64 j ∧ ov = .slice p r m ∧ OwnI 3 V.heap.size wr (.slice p r m) (chosen (shB l) j) ∧ Below V.heap.size V wr) (fun _ iv _ => M - (intOf iv).toNat)
  case atStart => exact ⟨0, _, _, _, Nat.zero_le _, rfl, rfl, (by rw [← hVs]; exact o0), bl1 _ _⟩
  case round =>
    obtain ⟨j, p, r, m, hj, rfl, rfl, own, Bw⟩ := hrel
    clear o0
    have B2 := B.after Bw B.size
    have K1w := K1.keep Bw
    have G := K1w.cell
    go_wp2_with fail
    refine (HFM.out wr (hv.below B2 (Nat.le_refl _))).mono ?_
    rintro e w3 ⟨rfl, b3⟩
    have Bw3 := Bw.after b3 Bw.size
    have B3 := B.after Bw3 B.size
    have K13 := K1.keep Bw3
    have K23 := K2.keep Bw3
    have own3 := own.keep b3
    clear G K1w own
    have G := K13.cell
    by_cases hlt : j < M
    · have hlt2 : (j : Int) < 2 ^ N := by rw [HMI.out]; omega
      have hsh := HSH.out w3 j hlt (hv.below B3 (Nat.le_refl _))
      have hcs := chosen_succ (shB l) j
      obtain ⟨z, hz⟩ : ∃ z, z = shB l j := ⟨_, rfl⟩
      rw [← hz] at hsh hcs
      have hln := chosen_len (shB l) j
      have HSS := Lib.hid hsh
      have HCS := Lib.hid hcs
      clear hz hsh hcs
      cases z with
      | false =>
        go_wp2_with fail
        refine HSS.out.mono ?_
        rintro e w4 ⟨rfl, b4⟩
        have o4 := own3.keep b4
        go_wp2
        go_roundw
        case rel => exact ⟨j + 1, p, r, m, by omega, by go_num, rfl, by rw [HCS.out]; exact o4, Bw3.after b4 Bw3.size⟩
        case measure => simp [intOf]; omega
      | true =>
        go_wp2_with fail
        refine HSS.out.mono ?_
        rintro e w4 ⟨rfl, b4⟩
        have o4 := own3.keep b4
        have B4 := Bw3.after b4 Bw3.size
        have z4 := B4.size
        go_wp2_with (at_builtin; refine wpList_appendI rfl _ _ _ rfl 3 Tryz.underlying22 intElem V.heap.size _ (chosen (shB l) j) (j : Int) w4.heap.size rfl rfl (cell_new _ _ _ _ _ rfl) (o4.alloc _) ⟨by omega, by omega⟩ (by omega) (by simp; omega) ?_; intro v' w6 hown hgr; obtain ⟨av, nv, cv, rfl⟩ := hown.shape3)
        have hrow := o4.lt
        have B6 : Below V.heap.size V w6 := (B4.alloc B4.size (.cells #[.int .i64 (j : Int)] 3)).grown hgr (by simp; omega) (fun q hq => (hrow q hq).1)
        go_roundw
        case rel => exact ⟨j + 1, av, nv, cv, by omega, by go_num, rfl, by rw [HCS.out]; exact hown, B6⟩
        case measure => simp [intOf]; omega
    · have hlt2 : ¬ (j : Int) < 2 ^ N := by rw [HMI.out]; omega
      have hjM : j = M := by omega
      have HJ := Lib.hid hjM
      clear hjM
      go_wp2_with fail
      refine (HFM.out w3 (hv.below B3 (Nat.le_refl _))).mono ?_
      rintro e w4 ⟨rfl, b4⟩
      have K2f := K23.keep b4
      have K1f := K13.keep b4
      have B4 := B3.after b4 B3.size
      have o4 := own3.keep b4
      have z3 := K2f.lt
      clear G
      have G := K1f.cell
      have G2 := K2f.cell
      have F2 := K2f.frozen
      go_wp2
      refine post_named ?_
      intro Wf hWf
      have Kf : Blk Wf (w.heap.size + 1) 27 #[.int .i64 (N : Int), .slice p r m] := by
        rw [hWf]
        have := (K2f.set 0 (.int .i64 (N : Int))).set 1 (.slice p r m)
        simpa using this
      have Bf : Below w.heap.size w Wf := by rw [hWf]; exact Below.setCell (Below.setCell B4 (by first | omega | (simp; done) | (simp; omega)) _) (by first | omega | (simp; done) | (simp; omega)) _
      have of : OwnI 3 V.heap.size Wf (.slice p r m) (chosen (shB l) j) := by rw [hWf]; exact (o4.setBelow (by show w.heap.size + 1 < _; omega) _).setBelow (by show w.heap.size + 1 < _; omega) _
      have Gf := Kf.cell
      clear hWf G2 F2 G
      exact bodyPost_ret (v := .tuple #[.agg #[.int .i64 (N : Int), .slice p r m], .bool true]) (by simp [results, Tryz.results216, go_sem, Gf]) rfl ⟨_, _, _, rfl, by rw [HX.out, ← HJ.out]; exact of.ints, Bf⟩

set_option maxHeartbeats 1000000 in
set_option maxRecDepth 100000 in
theorem dimS_any (w : World) (g : Int) (v : Value) (l : List Int) (hv : Ints w v l) (hf : isFamB g l = true) :
    Calls Tryz.prog 76 #[.agg #[.int .i64 g, v]] w fun e w' => e = .returned (.int .i64 (dimN g l)) ∧ Below w.heap.size w w' := by
  obtain ⟨a, c, rfl⟩ := hv.shape
  have hx : dimN g l = mxTr (-1) (shaL g l) (shaL g l).length := by unfold dimN; rw [hf]; rfl
  have hss := shatSetsS_any (w.alloc (.cells #[.int .i64 g, .slice a l.length c] 27)) g _ l (hv.alloc _) hf
  have hsm := shaL_mem g l
  have hbd := mxTr_bd (-1) (shaL g l) (fun x hx => (hsm x hx).2) (by omega)
  obtain ⟨T, hT⟩ : ∃ T, T = shaL g l := ⟨_, rfl⟩
  rw [← hT] at hx hss hsm hbd
  have HX := Lib.hid hx
  have HSS := Lib.hid hss
  have HSM := Lib.hid hsm
  have HBD := Lib.hid hbd
  clear hx hss hsm hbd hf hT
  go_enter Tryz.func76, Tryz.ntmps76
  go_wp2_with fail
  refine HSS.out.mono ?_
  rintro e w1 ⟨p1, i1, q1, rfl, o1, b1⟩
  have hi1 : i1 = T.length := o1.capLe.1
  subst hi1
  have B1 : Below w.heap.size w w1 := (bl1 _ _).after b1 (by simp)
  obtain ⟨_, b, off, _, hve, _, hix, hc, hb⟩ := o1.view Tryz.prog 22 3 Tryz.underlying22 intElem
  injection hve with x1 _ x3
  subst x1 x3
  have hc2 := cells_below hc hb (bl1 w1 (.cells #[.int .i64 g, .slice p1 T.length q1] 27)) (Nat.le_refl _)
  have HC := Lib.hid hc2
  have HIX := Lib.hid hix
  clear hc hix o1 hb hc2
  go_wp2_with fail
  go_loop [5, 6] (fun mv iv => ∃ j : Nat, j ≤ T.length ∧ iv = .int .i64 j ∧ mv = .int .i64 (mxTr (-1) T j)) (fun _ iv => T.length - (intOf iv).toNat)
  case atStart => exact ⟨0, Nat.zero_le _, rfl, rfl⟩
  case round =>
    obtain ⟨j, hj, rfl, rfl⟩ := hrel
    have hb1 := HBD.out j
    by_cases hlt : j < T.length
    · have hlt2 : (j : Int) < (T.length : Int) := by omega
      have ck := HC.out j hlt
      have ik := fun W => HIX.out W j hlt
      have hs : mxTr (-1) T (j + 1) = max (mxTr (-1) T j) (ipop T[j]) := by rw [mxTr, getD_at T j hlt]
      have hyb := HSM.out _ (List.getElem_mem hlt)
      obtain ⟨y, hy⟩ : ∃ y, y = T[j] := ⟨_, rfl⟩
      rw [← hy] at ck hs hyb
      have HSZ := Lib.hid (fun W => l2Size_i y W hyb.1 (by omega))
      have hpb := ipop_bd y (by omega)
      obtain ⟨z, hz⟩ : ∃ z, z = ipop y := ⟨_, rfl⟩
      rw [← hz] at hs hpb
      simp only [← hz] at HSZ
      obtain ⟨M, hM⟩ : ∃ y, y = mxTr (-1) T j := ⟨_, rfl⟩
      rw [← hM] at hs hb1 ⊢
      have HS := Lib.hid hs
      clear hy hz hM hs
      go_wp2_with (go_at_call 173; refine (HSZ.out _).mono ?_; rintro e w' ⟨rfl, rfl⟩)
      go_round
      case rel => exact ⟨j + 1, by omega, by go_num, by rw [HS.out]; try omega⟩
      case measure => simp [intOf]; omega
    · have hlt2 : ¬ (j : Int) < (T.length : Int) := by omega
      have hje : j = T.length := by omega
      have HJ := Lib.hid hje
      clear hje
      go_wp2
      go_ret
      exact ⟨ret_int (by rw [HX.out, ← HJ.out]), B1.alloc B1.size _⟩
end Go.Proofs.YtipejodijbjpcaaGreatDoor
end
