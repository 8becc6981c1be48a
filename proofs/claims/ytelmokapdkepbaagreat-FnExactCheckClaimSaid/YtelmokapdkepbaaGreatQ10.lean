/- Functions of masses. Minimum cuts: what is computed. append, told with where the result lies. -/
import Derived.Test.YtelmokapdkepbaaGreatQ09
import Derived.Deep.AppendLies
import Derived.Deep.RegionLaw
section
namespace Go.Proofs.YtelmokapdkepbaaGreat
open Go.RowKit Go.G5

/-- the sum of the masses of the parts of s below k -/
def sumTo (m : List Int) (s : Nat) : Nat → Int
  | 0 => 0
  | k + 1 => if ndiff k s = 0 then sumTo m s k + m.getD k 0 else sumTo m s k
theorem sumTo_bd (m : List Int) (s : Nat) (h : ∀ k, (hk : k < m.length) → -100000 ≤ m[k] ∧ m[k] ≤ 100000) (k : Nat) (hk : k ≤ m.length) : -100000 * (k : Int) ≤ sumTo m s k ∧ sumTo m s k ≤ 100000 * (k : Int) := by
  induction k with
  | zero => simp [sumTo]
  | succ k ih =>
    have h1 := ih (by omega)
    have h2 := h k (by omega)
    rw [sumTo, List.getD_eq_getElem?_getD, List.getElem?_eq_getElem (show k < m.length by omega), Option.getD_some]
    split <;> omega

/-- the values of a function given by its numbers -/
def madeL (F : Nat → Int) (k : Nat) : List Int := (List.range k).map F
theorem madeL_succ (F : Nat → Int) (k : Nat) : madeL F (k + 1) = madeL F k ++ [F k] := by unfold madeL; rw [List.range_succ, List.map_append]; rfl

set_option maxHeartbeats 2000000 in
set_option maxRecDepth 100000 in
theorem makeFunction_any (w : World) (n : Nat) (hn : n ≤ 5) (c : FuncId) (he : ∀ args w, (callFunc c args).run Tryz.prog w = .ok (.enter c args) w) (g : Nat) (F : Nat → Int) (hF : ∀ s, s < 2 ^ n → InR (F s))
    (hw : ∀ (s : Nat) W', s < 2 ^ n → Below w.heap.size w W' → Calls Tryz.prog c #[.int .i64 (s : Int), .pointer (some ⟨g, 0, none⟩)] W' fun e w2 => e = .returned (.int .i64 (F s)) ∧ Below W'.heap.size W' w2) :
    Calls Tryz.prog 120 #[.int .i64 (n : Int), .func (.func c) #[] #[.pointer (some ⟨g, 0, none⟩)]] w fun e w' =>
      ∃ ad i cp, e = .returned (.tuple #[.agg #[.int .i64 (if isFunB n (madeL F (2 ^ n)) then (n : Int) else 0), .slice ad i cp], .bool (isFunB n (madeL F (2 ^ n)))]) ∧ OwnI 3 w.heap.size w' (.slice ad i cp) (if isFunB n (madeL F (2 ^ n)) then madeL F (2 ^ n) else []) ∧ Below w.heap.size w w' := by
  have hpn : (2 : Nat) ^ n ≤ 32 := Nat.pow_le_pow_right (by decide) hn
  have hp1 := Nat.two_pow_pos n
  have hpi : ((2 ^ n : Nat) : Int) = (2 : Int) ^ n := by simp
  obtain ⟨N, hN⟩ : ∃ N : Nat, N = 2 ^ n := ⟨_, rfl⟩
  rw [← hN] at hw hF hpn hp1 hpi ⊢
  clear hN
  have r0 := (BoxAt.new w (.int .i64 0) (.slice none 0 0) 31)
  have r1 := r0.keep (bl1 _ (.cells #[.int .i64 n, .slice none 0 0] 31))
  have b1 := BoxAt.new (w.alloc (.cells #[.int .i64 0, .slice none 0 0] 31)) (.int .i64 n) (.slice none 0 0) 31
  go_enter Tryz.func120, Tryz.ntmps120
  go_wp2_with fail
  go_loopw [13] (fun i wr => ∃ (k : Nat) (ad : Option Addr) (nn cp : Nat), k ≤ N ∧ i = .int .i64 k ∧ OwnI 3 (w.heap.size + 1 + 1) wr (.slice ad nn cp) (madeL F k) ∧ Below w.heap.size w wr ∧
      BoxAt wr w.heap.size (.int .i64 0) (.slice none 0 0) ∧ BoxAt wr (w.heap.size + 1) (.int .i64 n) (.slice ad nn cp))
    (fun i _ => N - (intOf i).toNat)
  case atStart => exact ⟨0, none, 0, 0, Nat.zero_le _, rfl, OwnI.nil _ _ _, (by repeat (first | exact Below.refl _ _ | (with_reducible refine Below.setCell ?_ (by first | omega | (simp; done) | (simp; omega)) _) | (with_reducible refine Below.alloc ?_ (by first | omega | (simp; done) | (simp; omega)) _) | (with_reducible refine Below.drewN' ?_ _) | (with_reducible refine Below.drew ?_) | (with_reducible assumption) | refine Below.trans ?_ (Below.mono (by assumption) (by first | omega | (simp; done) | (simp; omega))))), r1, by simpa using b1⟩
  case round =>
    obtain ⟨k, ad, nn, cp, hk, rfl, ho, B, R, X⟩ := hrel
    clear r0 r1 b1
    by_cases hlt : k < N
    · have hlt2 : (k : Int) < 2 ^ n := by rw [← hpi]; exact_mod_cast hlt
      have zr := R.lt
      have zx := X.lt
      have hFk := hF k hlt
      have hlen : (madeL F k).length = k := by simp [madeL]
      have hlk : (madeL F k).length ≤ 64 := by omega
      have hrow := ho.lt
      have HO := Lib.hid ho
      have HR := Lib.hid R
      have HXX := Lib.hid X
      obtain ⟨e0, e1, g0, g1⟩ := X
      clear ho R
      have hcl := hw k wr.drew hlt B.drew
      clear hw
      go_wp2
      go_region_law
        (first
          | (go_simp; go_at_fn c; refine hcl.mono ?_; rintro e w2 ⟨rfl, hb2⟩; have X2 := HXX.out.keep ((Below.refl _ _).drew.after hb2 (Nat.le_refl _)); have X3 := X2.keep (bl1 w2 (.cells #[.int .i64 (F k)] 3)); have zz2 := X2.lt; have x1 := X2.d1; have x2 := X2.f1; have x3 := X3.d1; have x4 := X3.f1)
          | (refine step_appendI rfl _ _ _ rfl 3 Tryz.underlying22 intElem (w.heap.size + 1 + 1) _ _ (F k) w2.heap.size rfl rfl (cell_new w2 #[.int .i64 (F k)] 3 0 _ rfl) ((HO.out.keep ((Below.refl _ _).drew.after hb2 (Nat.le_refl _))).alloc (.cells #[.int .i64 (F k)] 3)) hFk (by omega) (by simp; omega) ?_; intro v' w6 hown hgr; obtain ⟨av, nv, cv, rfl⟩ := hown.shape3; have X6 := X3.grow hgr (fun e => by have := (hrow _ e).1; omega); obtain ⟨i0, i1, j0, j1⟩ := X6))
      all_goals
       have B6 : Below w.heap.size w w6 := (((B.drew).after hb2 B.size).alloc (B.drew.after hb2 B.size).size (.cells #[.int .i64 (F k)] 3)).grown hgr (by simp; omega) (fun q hq => by have := (hrow q hq).1; omega)
       have R6 := ((HR.out.keep ((Below.refl _ _).drew.after hb2 (Nat.le_refl _))).keep (bl1 w2 (.cells #[.int .i64 (F k)] 3))).grow hgr (fun e => by have := (hrow _ e).1; omega)
       go_wp2
       go_roundw
       case rel => exact ⟨k + 1, av, nv, cv, by omega, by go_num, by rw [madeL_succ]; exact hown.setBelow (by first | omega | (simp; done) | (simp; omega)) _, B6.setCell (by first | omega | (simp; done) | (simp; omega)) _, R6.other (by omega) _, (BoxAt.mk i0 i1 j0 j1).set1 _⟩
       case measure => simp [intOf]; omega
    · have hlt2 : ¬ (k : Int) < 2 ^ n := by rw [← hpi]; exact_mod_cast hlt
      have hkN : k = N := by omega
      subst hkN
      have HO := Lib.hid ho
      have HR := Lib.hid R
      have HXX := Lib.hid X
      obtain ⟨e0, e1, g0, g1⟩ := X
      have hi := ho.ints
      clear ho hw R
      go_wp2_with fail
      refine (isFunI_any n _ _ _ hi).mono ?_
      rintro e w2 ⟨rfl, hb2⟩
      have B2 := B.after hb2 B.size
      have o2 := HO.out.keep hb2
      have HO2 := Lib.hid o2
      obtain ⟨f0, f1, j0, j1⟩ := HR.out.keep hb2
      obtain ⟨i0, i1, q0, q1⟩ := HXX.out.keep hb2
      clear e0 e1 g0 g1 hb2 B o2 hi
      cases hf : isFunB n (madeL F k) with
      | false =>
        have HF := Lib.hid hf
        go_wp2
        all_goals refine bodyPost_ret (v := .tuple #[.agg #[.int .i64 0, .slice none 0 0], .bool false]) (by simp [results, Tryz.results120, go_sem, f0, f1]) rfl ⟨none, 0, 0, rfl, OwnI.nil _ _ _, Below.setCell (Below.setCell B2 (Nat.le_refl _) _) (Nat.le_refl _) _⟩
      | true =>
        have HF := Lib.hid hf
        go_wp2
        refine bodyPost_ret (v := .tuple #[.agg #[.int .i64 n, .slice ad nn cp], .bool true]) (by simp [results, Tryz.results120, go_sem, f0, f1]) rfl ⟨ad, nn, cp, rfl, ?_, ?_⟩
        · exact ((HO2.out.setBelow (by first | omega | (simp; done) | (simp; omega)) _).setBelow (by first | omega | (simp; done) | (simp; omega)) _).mono (by first | omega | (simp; done) | (simp; omega))
        · exact Below.setCell (Below.setCell B2 (Nat.le_refl _) _) (Nat.le_refl _) _
end Go.Proofs.YtelmokapdkepbaaGreat
end
section
namespace Go.Proofs.YtelmokapdkepbaaGreat
open Go.RowKit Go.G5

def oppF (l : List Int) (s : Nat) : Int := l.getD (l.length - 1 - s) 0
def oppL (l : List Int) : List Int := madeL (oppF l) l.length
def opN (n : Int) (l : List Int) : Int := if isFunB n l then n else 0
def opL (n : Int) (l : List Int) : List Int := if isFunB n l then oppL l else []
def symB (n : Int) (l : List Int) : Bool := isFunB n l && decide (l = oppL l)
def fitB (n : Int) (l : List Int) : Bool := (subB n l && symB n l) && decide (2 ≤ n)
/-- the first least set from 1 on below k -/
def bestTo (l : List Int) : Nat → Nat
  | 0 => 1
  | k + 1 => if k < 2 then 1 else if l.getD k 0 < l.getD (bestTo l k) 0 then k else bestTo l k
def cutS (n : Int) (l : List Int) : Int := if fitB n l then (bestTo l (l.length - 1) : Int) else 0
def cutN (n : Int) (l : List Int) : Int := if fitB n l then l.getD (bestTo l (l.length - 1)) 0 else 0
theorem bestTo_two (l : List Int) : bestTo l 2 = 1 := rfl
theorem bestTo_succ (l : List Int) (k : Nat) (h : 2 ≤ k) : bestTo l (k + 1) = if l.getD k 0 < l.getD (bestTo l k) 0 then k else bestTo l k := by rw [bestTo, if_neg (by omega)]
theorem bestTo_lt (l : List Int) : ∀ k, 2 ≤ k → 1 ≤ bestTo l k ∧ bestTo l k < k := by
  intro k
  induction k with
  | zero => intro h; omega
  | succ k ih =>
    intro h
    by_cases hk : 2 ≤ k
    · have := ih hk
      rw [bestTo_succ l k hk]
      split <;> omega
    · have : k = 1 := by omega
      subst this
      rw [bestTo_two]; omega
theorem oppL_len (l : List Int) : (oppL l).length = l.length := by unfold oppL madeL; simp
theorem opL_len (n : Int) (l : List Int) (h : l.length ≤ 1048576) : (opL n l).length ≤ 1048576 := by
  unfold opL
  split
  · rw [oppL_len]; exact h
  · simp
theorem oppF_at (l : List Int) (s : Nat) (h : s < l.length) : oppF l s = l[l.length - 1 - s] := by unfold oppF; exact getD_at l _ (by omega)
theorem opp_fun (n : Int) (l : List Int) (h : isFunB n l = true) : isFunB n (oppL l) = true := by
  obtain ⟨h0, h5, hlen, hlb⟩ := funOk h
  unfold isFunB allIn
  rw [oppL_len, inB_true.2 ⟨h0, h5⟩, decide_eq_true hlen]
  simp only [Bool.true_and, List.all_eq_true]
  intro x hx
  unfold oppL madeL at hx
  obtain ⟨s, hs, rfl⟩ := List.mem_map.1 hx
  rw [List.mem_range] at hs
  rw [oppF_at l s hs]
  exact inB_true.2 (hlb _ (by omega))
theorem ndiff_full : ∀ n : Nat, n ≤ 5 → ∀ s : Nat, s < 2 ^ n → ndiff (2 ^ n - 1) s = 2 ^ n - 1 - s := by decide +kernel
end Go.Proofs.YtelmokapdkepbaaGreat
end
section
namespace Go.G5
open Go Go.RowKit

section
variable {P : Program} {w : World}
/-- where a result of append lies: where the slice lay, or in a new block -/
def NearBy (w : World) (v v' : Value) : Prop := v'.ownBlock = v.ownBlock ∨ v'.ownBlock = some w.heap.size
theorem run_appendN (T E ty : TypeId) (hT : P.underlying T = some (.slice E)) (hE : IntElem P E) (B : Nat) (v : Value) (l : List Int) (hown : OwnI E B w v l)
    (sv : Value) (m : List Int) (hs : Ints w sv m) (hlen : l.length + m.length ≤ 17592186044416) (hB : B ≤ w.heap.size) :
    ∃ v' w', (Builtin.append_ #[T, T] ty #[v, sv]).run P w = .ok v' w' ∧ OwnI E B w' v' (l ++ m) ∧ w.grownBy w' v.ownBlock ∧ NearBy w v v' := by
  obtain ⟨i, hi, hz, h1, h8⟩ := hE.get
  obtain ⟨ad, c, rfl, hmc, hcm, hr, h4⟩ := hs
  have hall : ∀ q ∈ l ++ m, InR q := fun q hq => (List.mem_append.1 hq).elim (hown.2 q) (hr q)
  have hempty : ad = none → m = [] := by
    intro e
    rcases h4 with h | ⟨b, off, hb, _⟩
    · exact h
    · rw [e] at hb; cases hb
  cases ad with
  | none =>
    have := hempty rfl
    subst this
    refine ⟨v, w, ?_, by simpa using hown, World.grownBy.refl w _, .inl rfl⟩
    rcases hown.1.2 with ⟨rfl, hn⟩ | ⟨g, cap, cur, rfl, _, _, hnc, _⟩
    · simp [Builtin.append_, run_underlying hT, sizeOf, typeInfo, hi, Builtin.lenOf, Builtin.firstCells]
    · simp [Builtin.append_, run_underlying hT, sizeOf, typeInfo, hi, Builtin.lenOf, Builtin.firstCells, hnc, storeCells]
  | some ad =>
    have hcells : ∀ j u, (m.map (Value.int .i64))[j]? = some u → w.cell? (ad.add j) = some u := by
      intro j u hu
      rcases h4 with h | ⟨b, off, hb, _, hc⟩
      · subst h; simp at hu
      · simp only [Option.some.injEq] at hb
        subst hb
        have hj : j < m.length := by
          rcases Nat.lt_or_ge j m.length with h | h
          · exact h
          · rw [List.getElem?_eq_none (by simpa using h)] at hu; cases hu
        have := hc j hj
        have e : (⟨b, off, none⟩ : Addr).add j = ⟨b, off + j, none⟩ := by
          unfold Addr.add; split
          · rename_i h0; rw [h0]; rfl
          · rfl
        rw [e, this]
        rw [List.getElem?_map, List.getElem?_eq_getElem hj] at hu
        exact hu
    obtain ⟨v', w', hrun, h2, h3, _, h5⟩ := run_append_own_at (P := P) w B T ty E i (.int .i64 0) 1 8 hT hi hz h1 h8 rfl (by decide) v l.length (l.map (Value.int .i64)) hown.1 ad m.length c (m.map (Value.int .i64)) (by simp) hcells
      (by intro u hu; obtain ⟨q, _, rfl⟩ := List.mem_map.1 hu; rfl) (by unfold maxLen; omega) (by omega) hB
    exact ⟨v', w', hrun, ⟨by simpa using h2, hall⟩, h3, h5⟩
theorem wp_appendN {o : Oper} {a : Act} {K : Act → World → Prop} {Q : Exit → Act → World → Prop} (s x : Operand) (t : TypeId)
    (ho : o.op = .call { callee := .builtin .append, args := #[s, x], argTypes := #[t, t] })
    (E : TypeId) (hT : P.underlying t = some (.slice E)) (hE : IntElem P E) (B : Nat) (v : Value) (l : List Int) (hs : a.eval s = v) (hown : OwnI E B w v l)
    (sv : Value) (m : List Int) (hx : a.eval x = sv) (hsv : Ints w sv m) (hlen : l.length + m.length ≤ 17592186044416) (hB : B ≤ w.heap.size)
    (h : ∀ v' w', OwnI E B w' v' (l ++ m) → w.grownBy w' v.ownBlock → NearBy w v v' → K (a.put o.dst v') w') : o.wp P a w K Q := by
  obtain ⟨v', w', hrun, h2, h3, h4⟩ := run_appendN (P := P) t E o.type hT hE B v l hown sv m hsv hlen hB
  unfold Oper.wp execOp
  simp only [ho, resolve, invoke, builtin, Sem.run_bind, Sem.run_pure, Result.andThen_ok, List.map_toArray, List.map_cons, List.map_nil, hs, hx, hrun]
  exact h v' w' h2 h3 h4
theorem Ints.one {w : World} {b : Nat} {y : Int} (hy : w.cell? ⟨b, 0, none⟩ = some (.int .i64 y)) (hyr : InR y) : Ints w (.slice (some ⟨b, 0, none⟩) 1 1) [y] :=
  ⟨some ⟨b, 0, none⟩, 1, rfl, Nat.le_refl _, by decide, by intro q hq; simp only [List.mem_singleton] at hq; subst hq; exact hyr,
      .inr ⟨b, 0, rfl, World.block_lt_of_cell? w _ hy, fun k hk => by have : k = 0 := by simpa using hk
                                                                      subst this; exact hy⟩⟩
/-- out = append(out, y) -/
theorem wpList_appendN1 {ops : Array Oper} {rest : List Oper} {o : Oper} {a : Act} {Q : Exit → Act → World → Prop} (hgd : o.guard = none) (s x : Operand) (t : TypeId)
    (ho : o.op = .call { callee := .builtin .append, args := #[s, x], argTypes := #[t, t] })
    (E : TypeId) (hT : P.underlying t = some (.slice E)) (hE : IntElem P E) (B : Nat) (v : Value) (l : List Int) (y : Int) (b : Nat) (hs : a.eval s = v) (hx : a.eval x = .slice (some ⟨b, 0, none⟩) 1 1)
    (hy : w.cell? ⟨b, 0, none⟩ = some (.int .i64 y))
    (hown : OwnI E B w v l) (hyr : InR y) (hlen : l.length < 17592186044415) (hB : B ≤ w.heap.size)
    (h : ∀ v' w', OwnI E B w' v' (l ++ [y]) → w.grownBy w' v.ownBlock → NearBy w v v' → wpList P ops Q rest (a.put o.dst v') w') : wpList P ops Q (o :: rest) a w :=
  wpList_plain hgd fun _ hK => wp_appendN s x t ho E hT hE B v l hs hown _ [y] hx (Ints.one hy hyr) (by simp; omega) hB fun v' w' h2 h3 h4 => hK _ _ (h v' w' h2 h3 h4)
/-- out = append(out, s...) -/
theorem wpList_appendN {ops : Array Oper} {rest : List Oper} {o : Oper} {a : Act} {Q : Exit → Act → World → Prop} (hgd : o.guard = none) (s x : Operand) (t : TypeId)
    (ho : o.op = .call { callee := .builtin .append, args := #[s, x], argTypes := #[t, t] })
    (E : TypeId) (hT : P.underlying t = some (.slice E)) (hE : IntElem P E) (B : Nat) (v : Value) (l : List Int) (hs : a.eval s = v) (hown : OwnI E B w v l)
    (sv : Value) (m : List Int) (hx : a.eval x = sv) (hsv : Ints w sv m) (hlen : l.length + m.length ≤ 17592186044416) (hB : B ≤ w.heap.size)
    (h : ∀ v' w', OwnI E B w' v' (l ++ m) → w.grownBy w' v.ownBlock → NearBy w v v' → wpList P ops Q rest (a.put o.dst v') w') : wpList P ops Q (o :: rest) a w :=
  wpList_plain hgd fun _ hK => wp_appendN s x t ho E hT hE B v l hs hown sv m hx hsv hlen hB fun v' w' h2 h3 h4 => hK _ _ (h v' w' h2 h3 h4)
end
/-- what is known of another own row where append has grown one that lies apart -/
theorem NearBy.apart {w : World} {v v' u : Value} (h : NearBy w v v') (ha : Apart v u) (hu : ∀ k, u.ownBlock = some k → k < w.heap.size) : Apart v' u := by
  intro k hk hku
  rcases h with h | h
  · exact ha k (h ▸ hk) hku
  · rw [h] at hk
    have e : w.heap.size = k := Option.some.inj hk
    have := hu k hku
    omega
theorem OwnI.growA {E : TypeId} {B : Nat} {w w' : World} {u v : Value} {l : List Int} (h : OwnI E B w u l) (hg : w.grownBy w' v.ownBlock) (ha : Apart v u) : OwnI E B w' u l :=
  h.grow hg (fun k hk hu => ha k hk hu)
theorem OwnW.growA {E : TypeId} {B : Nat} {w w' : World} {u v : Value} {l : List Int} (h : OwnW E B w u l) (hg : w.grownBy w' v.ownBlock) (ha : Apart v u) : OwnW E B w' u l :=
  h.grow hg (fun k hk hu => ha k hk hu)
theorem Apart.nil (c d : Nat) (u : Value) : Apart (.slice none c d) u := fun k hk _ => by simp [Value.ownBlock] at hk
theorem Ints.upto {P : Program} {w : World} {a : Option Addr} {c : Nat} {l : List Int} (h : Ints w (.slice a l.length c) l) (T E : TypeId) (hT : P.underlying T = some (.slice E)) (hE : IntElem P E) (k : Nat) (hk : k ≤ l.length) :
    (∀ (kk : IntKind) (w' : World), (Instr.slice T (.slice a l.length c) none (some (.int kk (k : Int))) none).run P w' = .ok (.slice a k c) w') ∧ Ints w (.slice a k c) (l.take k) := by
  obtain ⟨i, hi, _, h1, _⟩ := hE.get
  have hEl : P.elem T = E := by simp [Program.elem, hT]
  obtain ⟨hl, hcl, hcm⟩ := h.capLe
  have hlen : (l.take k).length = k := by simp; omega
  refine ⟨fun kk w' => ?_, ?_⟩
  · rw [run_slice_h w' T a l.length c (by rw [hEl]; exact hT) kk k (by omega) (by omega)]
    simp [sizeOf, typeInfo, hEl, hi, h1, Result.andThen, sliced]
    cases a with
    | none => simp
    | some x => simp [Addr.add]
  · obtain ⟨a1, c1, he, q1, q2, q3, h4⟩ := h
    simp only [Value.slice.injEq] at he
    obtain ⟨rfl, _, rfl⟩ := he
    refine ⟨a, c, by rw [hlen], by omega, q2, fun x hx => q3 x (List.mem_of_mem_take hx), ?_⟩
    rcases h4 with e | ⟨b, off, rfl, hb, hk'⟩
    · rw [e]; exact .inl (by simp)
    · exact .inr ⟨b, off, rfl, hb, fun j hj => by rw [hk' j (by omega), List.getElem_take]⟩
theorem OwnI.drew' {E : TypeId} {B : Nat} {w : World} {v : Value} {l : List Int} (h : OwnI E B w v l) : OwnI E B w.drew v l := h.drewN 1
theorem Ints.drew' {w : World} {v : Value} {l : List Int} (h : Ints w v l) : Ints w.drew v l := h.drewN 1

/-- a step of a region that draws its order: append of a slice, told of the world in which the walk began -/
theorem step_put {P : Program} {w : World} {ops : Array Oper} {o : Oper} {a : Act} {K : Act → World → Prop} {Q : Exit → Act → World → Prop} {F : Prop} (hgd : o.guard = none) (s x : Operand) (t : TypeId)
    (ho : o.op = .call { callee := .builtin .append, args := #[s, x], argTypes := #[t, t] })
    (E : TypeId) (hT : P.underlying t = some (.slice E)) (hE : IntElem P E) (B : Nat) (v : Value) (l : List Int) (hs : a.eval s = v)
    (sv : Value) (m : List Int) (hx : a.eval x = sv) (hown : OwnI E B w v l) (hsv : Ints w sv m) (hlen : l.length + m.length ≤ 17592186044416) (w0 : World) (hb : Below B w0 w) (hB0 : B ≤ w0.heap.size)
    (h : ∀ v' w', OwnI E B w' v' (l ++ m) → Below B w0 w' → (∀ b u, w.cell? ⟨b, 0, none⟩ = some u → some b ≠ v.ownBlock → w'.cell? ⟨b, 0, none⟩ = some u) → K (a.put o.dst v') w') : if Region.wanted o (yielded ops a.tmps) = true then Oper.wp P o a w K Q else F := by
  have hB := Nat.le_trans hB0 hb.size
  refine step_appendS hgd s x t ho E hT hE B v l hs hown sv m hx hsv hlen hB fun v' w' h1 h2 => h v' w' h1 (hb.grown h2 hB (fun q hq => (hown.lt q hq).1)) fun b u hc hne => ?_
  have hlt := World.block_lt_of_cell? w _ hc
  have e := h2.block b hlt hne
  unfold World.cell? at hc ⊢
  simp only at hc ⊢
  rw [e]; exact hc
theorem cell_newD (w : World) (T : TypeId) (u : Value) : (w.alloc (.cells #[u] T)).drew.cell? ⟨w.heap.size, 0, none⟩ = some u := cell_new w #[u] T 0 u rfl
theorem cell_second (w : World) (o : Obj) (T : TypeId) (u : Value) : ((w.alloc o).alloc (.cells #[u] T)).drew.cell? ⟨w.heap.size + 1, 0, none⟩ = some u := by
  have h := cell_new (w.alloc o) #[u] T 0 u rfl
  have e : (w.alloc o).heap.size = w.heap.size + 1 := by simp
  rw [e] at h
  exact h
theorem cell_first (w : World) (o : Obj) (T : TypeId) (u : Value) : ((w.alloc (.cells #[u] T)).alloc o).drew.cell? ⟨w.heap.size, 0, none⟩ = some u := cell_old (cell_new w #[u] T 0 u rfl) o
theorem own_ne1 (n : Nat) (a b : Nat) : some (n + 1) ≠ (Value.slice (some ⟨n, 0, none⟩) a b).ownBlock := by intro e; have h : n + 1 = n := Option.some.inj e; omega
theorem own_ne2 (n : Nat) (a b : Nat) : some n ≠ (Value.slice (some ⟨n + 1, 0, none⟩) a b).ownBlock := by intro e; have h : n = n + 1 := Option.some.inj e; omega
theorem OwnI.lit0' {E : TypeId} (w : World) (o : Obj) : OwnI E w.heap.size ((w.alloc o).alloc (.cells #[] E)) (.slice (some ⟨w.heap.size + 1, 0, none⟩) 0 0) [] := by
  have := OwnI.lit0 (E := E) (B := w.heap.size) (w.alloc o) (by simp)
  simpa using this
/-- as step_put; whole blocks apart from the row are as they were -/
theorem step_putB {P : Program} {w : World} {ops : Array Oper} {o : Oper} {a : Act} {K : Act → World → Prop} {Q : Exit → Act → World → Prop} {F : Prop} (hgd : o.guard = none) (s x : Operand) (t : TypeId)
    (ho : o.op = .call { callee := .builtin .append, args := #[s, x], argTypes := #[t, t] })
    (E : TypeId) (hT : P.underlying t = some (.slice E)) (hE : IntElem P E) (B : Nat) (v : Value) (l : List Int) (hs : a.eval s = v)
    (sv : Value) (m : List Int) (hx : a.eval x = sv) (hown : OwnI E B w v l) (hsv : Ints w sv m) (hlen : l.length + m.length ≤ 17592186044416) (w0 : World) (hb : Below B w0 w) (hB0 : B ≤ w0.heap.size)
    (h : ∀ v' w', OwnI E B w' v' (l ++ m) → Below B w0 w' → (∀ b t cs, Blk w b t cs → some b ≠ v.ownBlock → Blk w' b t cs ∧ v'.ownBlock ≠ some b) → K (a.put o.dst v') w') : if Region.wanted o (yielded ops a.tmps) = true then Oper.wp P o a w K Q else F := by
  have hB := Nat.le_trans hB0 hb.size
  have hw : Region.wanted o (yielded ops a.tmps) = true := by simp [Region.wanted, hgd]
  rw [if_pos hw]
  refine wp_appendN s x t ho E hT hE B v l hs hown sv m hx hsv hlen hB fun v' w' h1 h2 h3 => h v' w' h1 (hb.grown h2 hB (fun q hq => (hown.lt q hq).1)) fun b t cs hc hne => ⟨hc.grow h2 (fun e => hne e.symm), ?_⟩
  rcases h3 with h3 | h3
  · rw [h3]; exact fun e => hne e.symm
  · rw [h3]; intro e; have := Option.some.inj e; have := hc.lt; omega
theorem grown_setCell (w : World) (a : Addr) (u : Value) : w.grownBy (w.setCell a u) (some a.block) :=
  ⟨rfl, rfl, rfl, by simp, fun b _ hne => Below.heap_setCell w _ _ b (fun e => hne (by rw [e]))⟩
theorem grow_set {w w' : World} {g : Nat} (h : w.grownBy w' (some g)) (i : Nat) (u : Value) : w.grownBy (w'.setCell ⟨g, i, none⟩ u) (some g) := gr_trans h (grown_setCell w' ⟨g, i, none⟩ u)
theorem OwnI.setFar {E : TypeId} {B : Nat} {w : World} {v : Value} {l : List Int} (h : OwnI E B w v l) (a : Addr) (ha : v.ownBlock ≠ some a.block) (u : Value) : OwnI E B (w.setCell a u) v l :=
  h.grow (grown_setCell w a u) (fun _ hk hv => ha (hv.trans hk.symm))
theorem far_of {v v' : Value} {F n : Nat} (h : ∀ k, v'.ownBlock = some k → v.ownBlock = some k ∨ n ≤ k) (h1 : v.ownBlock ≠ some F) (h2 : F < n) : v'.ownBlock ≠ some F := fun e => by
  rcases h F e with h | h
  · exact h1 h
  · omega
theorem own_neF {E : TypeId} {B F : Nat} {w : World} {v : Value} {l : List Int} (h : OwnI E B w v l) (hF : w.heap.size ≤ F) : v.ownBlock ≠ some F := fun e => by have := (h.lt F e).2; omega
theorem size_ne {B g : Nat} {w w' : World} (h : Below B w w') (hg : g < w.heap.size) : ¬ w'.heap.size = g := by have := h.size; omega
theorem Blk.drew' {w : World} {g : Nat} {t : TypeId} {cs : Array Value} (h : Blk w g t cs) : Blk w.drew g t cs := h
theorem Blk.second (w : World) (o : Obj) (t : TypeId) (cs : Array Value) : Blk ((w.alloc o).alloc (.cells cs t)).drew (w.heap.size + 1) t cs := by
  have h := Blk.new (w.alloc o) t cs
  have e : (w.alloc o).heap.size = w.heap.size + 1 := by simp
  rw [e] at h
  exact h
theorem Blk.first (w : World) (o : Obj) (t : TypeId) (cs : Array Value) : Blk ((w.alloc (.cells cs t)).alloc o).drew w.heap.size t cs := (Blk.new w t cs).alloc o
end Go.G5
end
