/- Steps of a walk through a region with chained calls. The line of a function: the second program. -/
import Derived.Test.YtpaoiiiceekkkaaDoorQ38
import Derived.Deep.DeepCutAuto
section
namespace Go
section
variable {P : Program} {ops : Array Oper} {C : World → Prop} {Q : Act → World → Prop}
/-- operations that call nothing -/
def Oper.tame (o : Oper) : Bool :=
  match o.op with
  | .move _ | .assign _ | .pick _ _ _ | .load _ _ | .binOp _ _ _ _ _ | .unOp _ _ _ | .convert _ _ _ | .fieldAddr _ _ _ | .field _ _ _ | .indexAddr _ _ _ | .index _ _ _ | .slice _ _ _ _ _ | .extract _ _ | .build _ _ => true
  | .call c => match c.callee with
    | .builtin .len | .builtin .min | .builtin .max => true
    | _ => false
  | _ => false
theorem value_only (s : Sem Value) (w : World) (f : FuncId) (args : Array Value) (w' : World) : (do pure (Next.value (← s)) : Sem Next).run P w ≠ .ok (.enter f args) w' := by
  simp only [Sem.run_bind, Sem.run_pure]
  cases s.run P w with
  | ok v w1 => simp [Result.andThen]
  | halt x w1 => simp [Result.andThen]
theorem bool_only (s : Sem Bool) (F : Bool → Value) (w : World) (f : FuncId) (args : Array Value) (w' : World) : (do pure (Next.value (F (← s))) : Sem Next).run P w ≠ .ok (.enter f args) w' := by
  simp only [Sem.run_bind, Sem.run_pure]
  cases s.run P w with
  | ok v w1 => simp [Result.andThen]
  | halt x w1 => simp [Result.andThen]
theorem Oper.tame_enter {o : Oper} (h : o.tame = true) (ρ : Operand → Value) (w : World) (f : FuncId) (args : Array Value) (w' : World) : (execOp ρ o).run P w ≠ .ok (.enter f args) w' := by
  unfold Oper.tame at h
  unfold execOp
  split at h <;> rename_i ho <;> simp only [ho]
  case h_1 => simp
  case h_2 => simp
  case h_3 => exact bool_only _ (fun b => if b = true then _ else _) _ _ _ _
  case h_4 => exact value_only _ _ _ _ _
  case h_5 => exact value_only _ _ _ _ _
  case h_6 => exact value_only _ _ _ _ _
  case h_7 => exact value_only _ _ _ _ _
  case h_8 => exact value_only _ _ _ _ _
  case h_9 => exact value_only _ _ _ _ _
  case h_10 => exact value_only _ _ _ _ _
  case h_11 => exact value_only _ _ _ _ _
  case h_12 => exact value_only _ _ _ _ _
  case h_13 => exact value_only _ _ _ _ _
  case h_14 => exact value_only _ _ _ _ _
  case h_15 =>
    rename_i c
    split at h
    · rename_i hc
      simp only [resolve, hc, Sem.run_bind, Sem.run_pure, Result.andThen, invoke, builtin]
      split <;> simp
    · rename_i hc
      simp only [resolve, hc, Sem.run_bind, Sem.run_pure, Result.andThen, invoke, builtin]
      split <;> simp
    · rename_i hc
      simp only [resolve, hc, Sem.run_bind, Sem.run_pure, Result.andThen, invoke, builtin]
      split <;> simp
    · cases h
  case h_16 => cases h
theorem Oper.tame_quiet {o : Oper} (h : o.tame = true) : o.loud = false := by
  unfold Oper.tame at h
  unfold Oper.loud
  split
  · rename_i c hc
    simp only [hc] at h
    split
    · rename_i hv
      simp only [hv] at h
      cases h
    · rfl
  · rfl
theorem Oper.reads_of_quiet {o : Oper} {a : Act} {K : Act → Prop} (h : o.tame = true) (hq : o.quiet P a C K) : o.reads P a C K := by
  obtain ⟨v, h1, h2⟩ := hq
  refine ⟨v, fun w hw => ?_, h2⟩
  have h3 := h1 w hw
  have h4 := Oper.tame_enter (P := P) h a.eval w
  unfold Oper.quietAt at h3
  generalize (execOp a.eval o).run P w = r at *
  cases r with
  | ok n w' =>
    cases n <;> simp only [Oper.quietUpon, Oper.readUpon] at h3 ⊢
    case value u => exact h3
    case skip => exact h3
    case enter f args => exact h4 f args w' rfl
  | halt x w' => simp only [Oper.quietUpon] at h3
/-- the walk behind a name that does not unfold by itself -/
structure WMix (P : Program) (ops : Array Oper) (C : World → Prop) (Q : Act → World → Prop) (l : List Oper) (a : Act) (w : World) : Prop where
  out : wpMix P ops C Q l a w
theorem wpQuiet_to {K K' : Act → Prop} (h : ∀ a, K a → K' a) {o : Oper} {a : Act} (hq : wpQuiet P ops C K [o] a) : wpQuiet P ops C K' [o] a := by
  rw [wpQuiet] at hq ⊢
  split
  · rename_i hw
    rw [if_pos hw] at hq
    obtain ⟨v, h1, h2⟩ := hq
    exact ⟨v, h1, h _ h2⟩
  · rename_i hw
    rw [if_neg hw] at hq
    exact h _ hq
theorem wpMix_tame' {a : Act} {w : World} {o : Oper} {rest : List Oper} (h : o.tame = true) (hq : wpQuiet P ops C (fun a' => wpMix P ops C Q rest a' w) [o] a) : wpMix P ops C Q (o :: rest) a w := by
  rw [wpQuiet] at hq
  rw [wpMix]
  split
  · rename_i hw
    rw [if_pos hw] at hq
    rw [if_neg (by rw [Oper.tame_quiet h]; simp)]
    exact Oper.reads_of_quiet h hq
  · rename_i hw
    rw [if_neg hw] at hq
    exact hq
theorem wpMix_tame {a : Act} {w : World} {o : Oper} {rest : List Oper} (h : o.tame = true) (hq : wpQuiet P ops C (fun a' => WMix P ops C Q rest a' w) [o] a) : WMix P ops C Q (o :: rest) a w :=
  ⟨wpMix_tame' h (wpQuiet_to (fun _ h => h.out) hq)⟩
theorem wpMix_skip {a : Act} {w : World} {o : Oper} {rest : List Oper} (h : Region.wanted o (yielded ops a.tmps) = false) (hq : wpQuiet P ops C (fun a' => WMix P ops C Q rest a' w) [o] a) : WMix P ops C Q (o :: rest) a w := by
  rw [wpQuiet, if_neg (by rw [h]; simp)] at hq
  refine ⟨?_⟩
  rw [wpMix, if_neg (by rw [h]; simp)]
  exact WMix.out hq
theorem wpMix_nil {a : Act} {w : World} (h : Q a w) : WMix P ops C Q [] a w := ⟨h⟩
theorem goes_of_wp {o : Oper} {a : Act} {w : World} {K : Act → World → Prop} {f : FuncId} {args : Array Value} (he : (execOp a.eval o).run P w = .ok (.enter f args) w) (h : Calls P f args w fun e w'' => ∃ v, e = .returned v ∧ C w'' ∧ K (a.put o.dst v) w'') : o.goes P a w C K := by
  unfold Oper.goes
  rw [he]
  exact ⟨rfl, h⟩
/-- a call of a function by its number -/
theorem wpMix_call {a : Act} {w : World} {o : Oper} {rest : List Oper} (f : FuncId) (xs : Array Operand) (ts : Array TypeId) (ho : o.op = .call { callee := .value (.func f), args := xs, argTypes := ts }) (hent : ∀ args w, (callFunc f args).run P w = .ok (.enter f args) w)
    (hw : Region.wanted o (yielded ops a.tmps) = true) (h : ∀ K : Act → World → Prop, (∀ a' w', C w' → WMix P ops C Q rest a' w' → K a' w') → Calls P f (xs.map a.eval) w fun e w'' => ∃ v, e = .returned v ∧ K (a.put o.dst v) w'') : WMix P ops C Q (o :: rest) a w := by
  refine ⟨?_⟩
  rw [wpMix, if_pos hw, if_pos (by unfold Oper.loud; rw [ho])]
  have h1 := h (fun a' w' => C w' ∧ WMix P ops C Q rest a' w') (fun a' w' h1 h2 => ⟨h1, h2⟩)
  refine goes_of_wp (f := f) (args := xs.map a.eval) ?_ (h1.mono fun e w'' ⟨v, he, hC, hk⟩ => ⟨v, he, hC, hk.out⟩)
  unfold execOp
  simp only [ho, resolve, Sem.run_bind]
  have e := hent (xs.map a.eval) w
  simp [Act.eval, Deferred.ofValue, Sem.run_pure, Result.andThen, invoke, go_sem]
  exact e
/-- the region: its calls are chained, each leaves a world of the class -/
theorem wp_region_mix {id : Nat} {Q : Exit → Act → World → Prop} {a : Act} {w : World} {l : List Oper} (hm : P.follows .mixedOrders = true) (hB : Region.lexB .any l.toArray = true) (hch : Region.chained .any l.toArray = true)
    (hC : C w.drew) (h : WMix P l.toArray C (fun a' w' => Q .normal a' w') l a w.drew) : (Code.region id l.toArray true).wp P Q a w :=
  wp_region_mix' hm hB hch hC h.out
end
end Go
end
section
namespace Go.Proofs.YtpaoiiiceekkkaaDoor
open Go.RowKit Go.G5

theorem yesS_any (b : Bool) (x : ByteArray) (w : World) :
    Calls Tryd.prog 47 #[.bool b, .string x] w fun e w' => e = .returned (.string (yesT b x)) ∧ w = w' := by
  cases b
  · go_enter Tryd.func47, Tryd.ntmps47
    go_wp2
    go_ret
    exact ⟨rfl, rfl⟩
  · go_enter Tryd.func47, Tryd.ntmps47
    go_wp2
    go_ret
    exact ⟨rfl, rfl⟩

set_option maxHeartbeats 8000000 in
set_option maxRecDepth 100000 in
theorem fnLineS_c (w : World) (n : Int) (v : Value) (l : List Int) (hv : Ints w v l) (hl : l.length ≤ 1048576) :
    Calls Tryd.prog 14 #[.agg #[.int .i64 n, v]] w fun e w' => e = .returned (.string (funLn n l)) ∧ Below w.heap.size w w' := by
  have hv0 := hv
  obtain ⟨a, c, rfl⟩ := hv.shape
  have K0 := Blk.new w 31 #[.int .i64 n, .slice a l.length c]
  cases hf : isFunB n l with
  | false =>
    have hx : funLn n l = ByteArray.empty := by unfold funLn; rw [hf]; rfl
    have HX := Lib.hid hx
    have HF := Lib.hid hf
    clear hx hf
    go_enter Tryd.func14, Tryd.ntmps14
    go_wp2_with fail
    refine (isFunS_any n l _ _ (hv0.alloc _)).mono ?_
    rintro e w1 ⟨rfl, b1⟩
    rw [HF.out]
    go_wp2
    go_ret
    exact ⟨ret_str HX.out.symm, (bl1 _ _).after b1 (by simp)⟩
  | true =>
    have hx := funLn_join hf
    rw [show spaceB = space from rfl, fnTail_is] at hx
    have hlm := massesOf_few hf
    have hls := shapOf_few hf
    have hgb := gapN_bd n l
    have hsF := funTx_size n l
    have hgs := itoaB_size (gapN n l) ⟨by omega, by omega⟩
    obtain ⟨F, hF⟩ : ∃ F, F = funTx n l := ⟨_, rfl⟩
    obtain ⟨g, hg⟩ : ∃ g, g = gapN n l := ⟨_, rfl⟩
    obtain ⟨N, hN⟩ : ∃ N, N = itoaB g := ⟨_, rfl⟩
    rw [← hF, ← hg] at hx
    rw [← hF] at hsF
    rw [← hg] at hgb hgs
    rw [← hN] at hgs hx
    have HX := Lib.hid hx
    have HF := Lib.hid hf
    have hfmt := fun (W : World) (h : Ints W (.slice a l.length c) l) => fmtFunS_any n l _ W h
    have hgap := fun (W : World) (h : Ints W (.slice a l.length c) l) => gapS_any W n _ l h
    rw [← hF] at hfmt
    rw [← hg] at hgap
    have HFM := Lib.hid hfmt
    have HGP := Lib.hid hgap
    have HNN := Lib.hid hN
    clear hx hf hF hg hfmt hgap hN
    go_enter Tryd.func14, Tryd.ntmps14
    go_wp2_with fail
    refine (isFunS_any n l _ _ (hv0.alloc _)).mono ?_
    rintro e w1 ⟨rfl, b1⟩
    rw [HF.out]
    have B : Below w.heap.size w w1 := (bl1 _ _).after b1 (by simp)
    have K := K0.keep b1
    clear K0 b1
    have G := K.cell
    go_wp2_with fail
    refine (HFM.out _ (hv0.below B (Nat.le_refl _))).mono ?_
    rintro e w2 ⟨rfl, b2⟩
    have B := B.after b2 B.size
    have K := K.keep b2
    clear G b2
    have G := K.cell
    go_wp2_with fail
    refine (HGP.out _ (hv0.below B (Nat.le_refl _))).mono ?_
    rintro e w3 ⟨rfl, b3⟩
    have B := B.after b3 B.size
    have K := K.keep b3
    have hv1 := hv0.below B (Nat.le_refl _)
    clear G b3 HFM HGP
    have G := K.cell
    have g0 := G 0
    have g1 := G 1
    simp only [List.getElem?_toArray, List.getElem?_cons_zero, List.getElem?_cons_succ] at g0 g1
    clear G
    go_upto_region 5 with fail
    go_cut [3] (fun v wx => ∃ X, v = .string X ∧ X = fnHeadT F N (numB (massesOf n l)) (numB (shapOf n l)) ∧ X.size ≤ 4100 ∧ Below w3.heap.size w3 wx)
    case rest =>
      obtain ⟨X, rfl, hX, hXs, b4⟩ := hcut
      have hv2 := hv1.keep b4
      have K2 := K.keep b4
      have B2 := B.after b4 B.size
      have HXX := Lib.hid hX
      have G := K2.cell
      have g0 := G 0
      have g1 := G 1
      simp only [List.getElem?_toArray, List.getElem?_cons_zero, List.getElem?_cons_succ] at g0 g1
      clear G hX
      have q0 : ∀ y : Ext wc, y.w.cell? ⟨w.heap.size, 0, none⟩ = some (.int .i64 n) := fun y => y.cell g0
      have q1 : ∀ y : Ext wc, y.w.cell? ⟨w.heap.size, 1, none⟩ = some (.slice a l.length c) := fun y => y.cell g1
      have Q0 := fun y : Ext wc => isSubS_any n l _ y.w ((hv2.keep y.b)) hl
      have Q1 := fun y : Ext wc => supS_any n l _ y.w ((hv2.keep y.b)) hl
      have Q2 := fun y : Ext wc => incS_any n l _ y.w ((hv2.keep y.b))
      have Q3 := fun y : Ext wc => isGrS_any n l _ y.w ((hv2.keep y.b))
      have Q4 := fun y : Ext wc => symS_any n l _ y.w ((hv2.keep y.b)) hl
      have Q5 := fun y : Ext wc => polyS_any n l _ y.w ((hv2.keep y.b)) hl
      have Q6 := fun y : Ext wc => rankS_any n l _ y.w ((hv2.keep y.b)) hl
      obtain ⟨b10, hb10⟩ : ∃ b, b = subB n l := ⟨_, rfl⟩
      rw [← hb10] at Q0
      obtain ⟨b11, hb11⟩ : ∃ b, b = supB n l := ⟨_, rfl⟩
      rw [← hb11] at Q1
      obtain ⟨b12, hb12⟩ : ∃ b, b = incB n l := ⟨_, rfl⟩
      rw [← hb12] at Q2
      obtain ⟨b13, hb13⟩ : ∃ b, b = isGrB n l := ⟨_, rfl⟩
      rw [← hb13] at Q3
      obtain ⟨b14, hb14⟩ : ∃ b, b = symB n l := ⟨_, rfl⟩
      rw [← hb14] at Q4
      obtain ⟨b15, hb15⟩ : ∃ b, b = polyB n l := ⟨_, rfl⟩
      rw [← hb15] at Q5
      obtain ⟨b16, hb16⟩ : ∃ b, b = rankB n l := ⟨_, rfl⟩
      rw [← hb16] at Q6
      have HBS := Lib.hid (And.intro hb10 (And.intro hb11 (And.intro hb12 (And.intro hb13 (And.intro hb14 (And.intro hb15 hb16))))))
      have Q0 := Lib.hid Q0
      have Q1 := Lib.hid Q1
      have Q2 := Lib.hid Q2
      have Q3 := Lib.hid Q3
      have Q4 := Lib.hid Q4
      have Q5 := Lib.hid Q5
      have Q6 := Lib.hid Q6
      obtain ⟨t0, ht0⟩ : ∃ t, t = yesT b10 (⟨#[32, 115, 117, 98, 109, 111, 100, 117, 108, 97, 114]⟩ : ByteArray) := ⟨_, rfl⟩
      have Y0 := fun y : Ext wc => yesS_any b10 (⟨#[32, 115, 117, 98, 109, 111, 100, 117, 108, 97, 114]⟩ : ByteArray) y.w
      rw [← ht0] at Y0
      have Y0 := Lib.hid Y0
      have z0 : t0.size ≤ 14 := by rw [ht0]; exact Nat.le_trans (yesT_size _ _) (by decide)
      obtain ⟨t1, ht1⟩ : ∃ t, t = yesT b11 (⟨#[32, 115, 117, 112, 101, 114, 109, 111, 100, 117, 108, 97, 114]⟩ : ByteArray) := ⟨_, rfl⟩
      have Y1 := fun y : Ext wc => yesS_any b11 (⟨#[32, 115, 117, 112, 101, 114, 109, 111, 100, 117, 108, 97, 114]⟩ : ByteArray) y.w
      rw [← ht1] at Y1
      have Y1 := Lib.hid Y1
      have z1 : t1.size ≤ 14 := by rw [ht1]; exact Nat.le_trans (yesT_size _ _) (by decide)
      obtain ⟨t2, ht2⟩ : ∃ t, t = yesT b12 (⟨#[32, 105, 110, 99, 114, 101, 97, 115, 105, 110, 103]⟩ : ByteArray) := ⟨_, rfl⟩
      have Y2 := fun y : Ext wc => yesS_any b12 (⟨#[32, 105, 110, 99, 114, 101, 97, 115, 105, 110, 103]⟩ : ByteArray) y.w
      rw [← ht2] at Y2
      have Y2 := Lib.hid Y2
      have z2 : t2.size ≤ 14 := by rw [ht2]; exact Nat.le_trans (yesT_size _ _) (by decide)
      obtain ⟨t3, ht3⟩ : ∃ t, t = yesT b13 (⟨#[32, 103, 114, 111, 117, 110, 100, 101, 100]⟩ : ByteArray) := ⟨_, rfl⟩
      have Y3 := fun y : Ext wc => yesS_any b13 (⟨#[32, 103, 114, 111, 117, 110, 100, 101, 100]⟩ : ByteArray) y.w
      rw [← ht3] at Y3
      have Y3 := Lib.hid Y3
      have z3 : t3.size ≤ 14 := by rw [ht3]; exact Nat.le_trans (yesT_size _ _) (by decide)
      obtain ⟨t4, ht4⟩ : ∃ t, t = yesT b14 (⟨#[32, 115, 121, 109, 109, 101, 116, 114, 105, 99]⟩ : ByteArray) := ⟨_, rfl⟩
      have Y4 := fun y : Ext wc => yesS_any b14 (⟨#[32, 115, 121, 109, 109, 101, 116, 114, 105, 99]⟩ : ByteArray) y.w
      rw [← ht4] at Y4
      have Y4 := Lib.hid Y4
      have z4 : t4.size ≤ 14 := by rw [ht4]; exact Nat.le_trans (yesT_size _ _) (by decide)
      obtain ⟨t5, ht5⟩ : ∃ t, t = yesT b15 (⟨#[32, 112, 111, 108, 121, 109, 97, 116, 114, 111, 105, 100]⟩ : ByteArray) := ⟨_, rfl⟩
      have Y5 := fun y : Ext wc => yesS_any b15 (⟨#[32, 112, 111, 108, 121, 109, 97, 116, 114, 111, 105, 100]⟩ : ByteArray) y.w
      rw [← ht5] at Y5
      have Y5 := Lib.hid Y5
      have z5 : t5.size ≤ 14 := by rw [ht5]; exact Nat.le_trans (yesT_size _ _) (by decide)
      obtain ⟨t6, ht6⟩ : ∃ t, t = yesT b16 (⟨#[32, 109, 97, 116, 114, 111, 105, 100]⟩ : ByteArray) := ⟨_, rfl⟩
      have Y6 := fun y : Ext wc => yesS_any b16 (⟨#[32, 109, 97, 116, 114, 111, 105, 100]⟩ : ByteArray) y.w
      rw [← ht6] at Y6
      have Y6 := Lib.hid Y6
      have z6 : t6.size ≤ 14 := by rw [ht6]; exact Nat.le_trans (yesT_size _ _) (by decide)
      have HTS := Lib.hid (And.intro ht0 (And.intro ht1 (And.intro ht2 (And.intro ht3 (And.intro ht4 (And.intro ht5 ht6))))))
      clear g0 g1 hb10 hb11 hb12 hb13 hb14 hb15 hb16 ht0 ht1 ht2 ht3 ht4 ht5 ht6 hv1 hv2 K2 hlm hls hgb hsF hgs K
      have s0 : (X ++ t0).size ≤ 4114 := by simp only [ByteArray.size_append]; omega
      have s1 : (X ++ t0 ++ t1).size ≤ 4128 := by simp only [ByteArray.size_append]; omega
      have s2 : (X ++ t0 ++ t1 ++ t2).size ≤ 4142 := by simp only [ByteArray.size_append]; omega
      have s3 : (X ++ t0 ++ t1 ++ t2 ++ t3).size ≤ 4156 := by simp only [ByteArray.size_append]; omega
      have s4 : (X ++ t0 ++ t1 ++ t2 ++ t3 ++ t4).size ≤ 4170 := by simp only [ByteArray.size_append]; omega
      have s5 : (X ++ t0 ++ t1 ++ t2 ++ t3 ++ t4 ++ t5).size ≤ 4184 := by simp only [ByteArray.size_append]; omega
      have s6 : (X ++ t0 ++ t1 ++ t2 ++ t3 ++ t4 ++ t5 ++ t6).size ≤ 4198 := by simp only [ByteArray.size_append]; omega
      go_wp2_with fail
      refine wp_region_ext _ (by kernel_rfl) (by kernel_rfl) ?_
      repeat (first | go_big_quiet_skip | (go_big_quiet_want; go_big_quiet_op; first | go_big_quiet_on | (apply Exists.intro; refine ⟨fun _ => ?_, ?_⟩; (first | (go_at_call 48; with_reducible exact ext_call (Q0.out _)) | (go_at_call 49; with_reducible exact ext_call (Q1.out _)) | (go_at_call 50; with_reducible exact ext_call (Q2.out _)) | (go_at_call 51; with_reducible exact ext_call (Q3.out _)) | (go_at_call 52; with_reducible exact ext_call (Q4.out _)) | (go_at_call 53; with_reducible exact ext_call (Q5.out _)) | (go_at_call 54; with_reducible exact ext_call (Q6.out _)) | (go_at_call 47; first | (with_reducible exact ext_same (Y0.out _)) | (with_reducible exact ext_same (Y1.out _)) | (with_reducible exact ext_same (Y2.out _)) | (with_reducible exact ext_same (Y3.out _)) | (with_reducible exact ext_same (Y4.out _)) | (with_reducible exact ext_same (Y5.out _)) | (with_reducible exact ext_same (Y6.out _)))); go_big_quiet_on)))
      refine wpQuiet_nil ?_
      rintro w5 ⟨⟨w5, b5⟩, rfl⟩
      try dsimp only
      go_wp2_with fail
      go_ret
      refine ⟨ret_str ?_, B2.after b5 B2.size⟩
      obtain ⟨h0, h1, h2, h3, h4, h5, h6⟩ := HBS.out
      obtain ⟨k0, k1, k2, k3, k4, k5, k6⟩ := HTS.out
      rw [HX.out, ← h0, ← h1, ← h2, ← h3, ← h4, ← h5, ← h6, k0, k1, k2, k3, k4, k5, k6, HXX.out]
      rfl
    case first =>
      have q0 : ∀ y : Ext w3, y.w.cell? ⟨w.heap.size, 0, none⟩ = some (.int .i64 n) := fun y => y.cell g0
      have q1 : ∀ y : Ext w3, y.w.cell? ⟨w.heap.size, 1, none⟩ = some (.slice a l.length c) := fun y => y.cell g1
      have hfn := fun W : World => fmtS_any g ⟨by omega, by omega⟩ W
      rw [← HNN.out] at hfn
      have HFN := Lib.hid hfn
      have hvd : Ints w3.drew (.slice a l.length c) l := hv1.drew'
      clear hfn g0 g1
      refine wp_region_mix (C := fun w' => ∃ x : Ext w3, w' = x.w) (by kernel_rfl) (by kernel_rfl) (by kernel_rfl) ⟨⟨w3.drew, (Below.refl _ _).drew⟩, rfl⟩ ?_
      have bd : Below w3.heap.size w3 w3.drew := (Below.refl _ _).drew
      repeat (refine wpMix_tame (by rfl) ?_; (first | go_big_quiet_skip | (go_big_quiet_want; go_big_quiet_op; go_big_quiet_on)); refine wpQuiet_nil ?_)
      refine wpMix_call 29 _ _ rfl (enters_of Tryd.func29 (by kernel_rfl) rfl) (by kernel_rfl) ?_; intro KK hKK; go_simp
      refine (HFN.out _).mono ?_
      rintro e wa ⟨rfl, ba⟩
      have ba := bd.after ba bd.size
      refine ⟨_, rfl, ?_⟩
      go_simp
      refine hKK _ _ ⟨⟨wa, ba⟩, rfl⟩ ?_
      clear hKK KK
      repeat (refine wpMix_tame (by rfl) ?_; (first | go_big_quiet_skip | (go_big_quiet_want; go_big_quiet_op; go_big_quiet_on)); refine wpQuiet_nil ?_)
      refine wpMix_call 45 _ _ rfl (enters_of Tryd.func45 (by kernel_rfl) rfl) (by kernel_rfl) ?_; intro KK hKK; go_simp
      refine (massesS_c wa n _ l (hv1.keep ba) hl).mono ?_
      rintro e wb ⟨p1, i1, r1, rfl, o1, bb⟩
      have bb := ba.after bb ba.size
      have rM := o1.ints.inR
      have sM : (numB (massesOf n l)).size ≤ 708 := by have := numB_size _ rM; omega
      refine ⟨_, rfl, ?_⟩
      go_simp
      refine hKK _ _ ⟨⟨wb, bb⟩, rfl⟩ ?_
      clear hKK KK
      repeat (refine wpMix_tame (by rfl) ?_; (first | go_big_quiet_skip | (go_big_quiet_want; go_big_quiet_op; go_big_quiet_on)); refine wpQuiet_nil ?_)
      refine wpMix_call 44 _ _ rfl (enters_of Tryd.func44 (by kernel_rfl) rfl) (by kernel_rfl) ?_; intro KK hKK; go_simp
      refine (numS_any (massesOf n l) _ wb o1.ints (by omega)).mono ?_
      rintro e wd ⟨rfl, bc⟩
      have bc := bb.after bc bb.size
      obtain ⟨M, hM⟩ : ∃ M, M = numB (massesOf n l) := ⟨_, rfl⟩
      rw [← hM] at sM ⊢
      have HMM := Lib.hid hM
      clear hM
      refine ⟨_, rfl, ?_⟩
      go_simp
      refine hKK _ _ ⟨⟨wd, bc⟩, rfl⟩ ?_
      clear hKK KK
      have e0 : (⟨#[102, 117, 110, 99, 116, 105, 111, 110, 32]⟩ : ByteArray).size = 9 := rfl
      have e1 : (⟨#[32, 103, 97, 112, 32]⟩ : ByteArray).size = 5 := rfl
      have e2 : (⟨#[32, 109, 97, 115, 115, 101, 115, 32]⟩ : ByteArray).size = 8 := rfl
      have e3 : (⟨#[32, 115, 104, 97, 112, 108, 101, 121, 32]⟩ : ByteArray).size = 9 := rfl
      repeat (refine wpMix_tame (by rfl) ?_; (first | go_big_quiet_skip | (go_big_quiet_want; go_big_quiet_op; go_big_quiet_on)); refine wpQuiet_nil ?_)
      refine wpMix_call 46 _ _ rfl (enters_of Tryd.func46 (by kernel_rfl) rfl) (by kernel_rfl) ?_; intro KK hKK; go_simp
      refine (shapS_c wd n _ l (hv1.keep bc) hl).mono ?_
      rintro e we ⟨p2, i2, r2, rfl, o2, be⟩
      have be := bc.after be bc.size
      have rS := o2.ints.inR
      have sS : (numB (shapOf n l)).size ≤ 708 := by have := numB_size _ rS; omega
      refine ⟨_, rfl, ?_⟩
      go_simp
      refine hKK _ _ ⟨⟨we, be⟩, rfl⟩ ?_
      clear hKK KK
      repeat (refine wpMix_tame (by rfl) ?_; (first | go_big_quiet_skip | (go_big_quiet_want; go_big_quiet_op; go_big_quiet_on)); refine wpQuiet_nil ?_)
      refine wpMix_call 44 _ _ rfl (enters_of Tryd.func44 (by kernel_rfl) rfl) (by kernel_rfl) ?_; intro KK hKK; go_simp
      refine (numS_any (shapOf n l) _ we o2.ints (by omega)).mono ?_
      rintro e wf ⟨rfl, bf⟩
      have bf := be.after bf be.size
      obtain ⟨S, hS⟩ : ∃ S, S = numB (shapOf n l) := ⟨_, rfl⟩
      rw [← hS] at sS ⊢
      have HSS := Lib.hid hS
      clear hS
      refine ⟨_, rfl, ?_⟩
      go_simp
      refine hKK _ _ ⟨⟨wf, bf⟩, rfl⟩ ?_
      clear hKK KK
      repeat (refine wpMix_tame (by rfl) ?_; (first | go_big_quiet_skip | (go_big_quiet_want; go_big_quiet_op; go_big_quiet_on)); refine wpQuiet_nil ?_)
      refine wpMix_nil ?_
      go_wp2_with fail
      go_meet
      exact ⟨_, rfl, by rw [HMM.out, HSS.out]; rfl, fnHeadT_size F N M S (by omega) (by omega) (by omega) (by omega), bf⟩
end Go.Proofs.YtpaoiiiceekkkaaDoor
end
