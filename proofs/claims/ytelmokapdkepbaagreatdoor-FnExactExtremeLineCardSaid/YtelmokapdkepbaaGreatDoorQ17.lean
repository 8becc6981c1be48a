/- Numerals: the first program. The frame of a law's row whose condition lays the library's tables. Functions of masses. Maxima and the double greed: what is computed. -/
import Derived.Test.YtelmokapdkepbaaGreatDoorQ16
import Derived.Lib.SmallJoins
import Derived.LaidMore
import Derived.Stop.LaidErr
import Derived.Stop.Joined
import Derived.MakeChecks
import Derived.Deep.AppendLies
import Derived.Deep.RegionLaw
section
namespace Go.Proofs.YtelmokapdkepbaaGreatDoor
open Go.RowKit Go.G5

/-- the table that strconv reads holds the powers of ten -/
def Pow (w : World) : Prop := Lib.TabIs Tryz.prog w "internal/strconv.uint64pow10" .u64 Lib.pow10Tab
theorem pow_named : (Tryz.prog.globalNamed "internal/strconv.uint64pow10").isSome = true := by kernel_rfl
theorem Pow.keep {w w' : World} (h : Pow w) (hb : Below w.heap.size w w') : Pow w' := by
  obtain ⟨g, hg⟩ := Option.isSome_iff_exists.1 pow_named
  exact Go.Joins.var_stays hg h hb (Nat.le_refl _)
theorem below_more (w : World) (k : Nat) (os : Array Obj) : Below w.heap.size w (Sort.grow (w.drewN k) os) := by
  refine ⟨rfl, rfl, rfl, ?_, fun b hb => ?_⟩
  · show w.heap.size ≤ (w.heap ++ os).size
    simp
  · show (w.heap ++ os)[b]? = w.heap[b]?
    rw [Array.getElem?_append_left hb]
set_option maxRecDepth 100000 in
theorem fmtI_any (n : Int) (hn : InR n) (w : World) (hp : Pow w) :
    Calls Tryz.prog 82 #[.int .i64 n] w fun e w' => e = .returned (.string (itoaB n)) ∧ Below w.heap.size w w' := by
  go_enter Tryz.func82, Tryz.ntmps82
  go_wp2_with (go_at_call 127; refine (sh_strconv_Itoa n hn.1 hn.2 _ hp).mono ?_; rintro e w' ⟨rfl, k, os, rfl⟩)
  go_ret
  exact ⟨rfl, below_more w k os⟩
end Go.Proofs.YtelmokapdkepbaaGreatDoor
end
section
namespace Go.Proofs.YtelmokapdkepbaaGreatDoor
open Go.ChangeShapes Go.WideShapes Go.ChangeAt Go.RowKit Go.G5
set_option maxRecDepth 100000

/-- THE FRAME OF A LAW's ROW, with tables laid: the call returns true and of old memory nothing turns -/
theorem law_lift_laid {f : FuncId} {fn : Func} {s : ChangeSpec} (laid : List (String × DataW Unit)) (os : Os) (started : os.Started) (H : Type) (enc : TypeId × Value → H)
    (hfn : Tryz.prog.funcs[f]? = some fn) (noInit : Tryz.prog.inits.idxOf? f = none) (hv : s.vars = []) (hres : fn.resultTypes = #[4])
    (hread : (fn.params.toList.all fun t => Tryz.prog.readableRec t && decide (t < Tryz.prog.types.size)) = true)
    (hspec : ∀ ds : List (DataW H), ds.length = fn.params.size → s.fn H ds = { results := [.lit (.bool true)], args := ds, vars := [] })
    (witness : ∃ (w : World) (tape : Tape) (i : Input), w.os = os ∧ (w.forCall tape i).Shaped Tryz.prog ∧ i.vars = [] ∧ Input.okWide Tryz.prog (w.forCall tape i) .any w.heap.size f i ∧
      ((s.pre enc Tryz.prog fn [] false (w.forCall tape i).memory i.args ∧ laidMetH Tryz.prog laid (w.forCall tape i).memory) ∧ sizedMet enc Tryz.prog fn (OpenSpec.ofChange s) false (w.forCall tape i).memory i.args) ∧ ({} : Assume).holds Tryz.prog (lone (Frame.enter Tryz.prog f i.args .normal) [] (w.forCall tape i)))
    (contract : ∀ (W : World) (base : Nat) (args : Array Value) (ds : List (DataW H)) (p : List MemPlace), (∀ (j : Nat) t v, fn.params[j]? = some t → args[j]? = some v → Value.okWide Tryz.prog W .any base t v) →
      DataW.TrodAll enc Tryz.prog W 0 (fun _ => true) true fn.params.toList args.toList ds p → laidMetH Tryz.prog laid W → Calls Tryz.prog f args W fun e W' => e = .returned (.bool true) ∧ Below W.heap.size W W') :
    ReturnsInHanded {} Tryz.checked os f .any (fun w args => (s.pre enc Tryz.prog fn [] false w args ∧ laidMetH Tryz.prog laid w) ∧ sizedMet enc Tryz.prog fn (OpenSpec.ofChange s) false w args) (s.post enc Tryz.prog fn false true false false) := by
  refine returnsInHanded_of_change_and (C := Tryz.checked) (X := fun w _ => laidMetH Tryz.prog laid w) (fun _ _ _ hh h => h.of_heap hh) own started noInit hfn witness ?_
  intro W base args ds gs before hval0 hW hcnd _ hL _
  have hval : ∀ (j : Nat) t v, fn.params[j]? = some t → args[j]? = some v → Value.okWide Tryz.prog W .any base t v := hval0
  have hlt0 := hW.lt
  have hW' := hW
  obtain ⟨p, q, hA0, hV, rfl, hfz, hnd⟩ := hW
  have hA : DataW.TrodAll enc Tryz.prog W 0 (fun _ => true) true fn.params.toList args.toList ds p := hA0
  rw [hv] at hV
  obtain ⟨rfl, rfl⟩ := trodVars_none hV
  refine (contract W base args ds p hval hA hL).mono fun e W' ⟨he, hb⟩ => ?_
  have hlen : ds.length = fn.params.size := by
    have := trodAll_len hA
    simpa using this
  refine ⟨_, he, ds, [], p ++ [], [], p, [], hW', ?_, ?_, ?_, hb.frame _, fun h => by cases h⟩
  · rw [List.append_nil, hspec ds hlen, hres]
    exact trodAll_mk1 (shut_bool Tryz.underlying4 true)
  · rw [List.append_nil, hspec ds hlen]
    exact trodAll_below laidOut hb hread hA fun x hx => by simpa using hlt0 x (by simp [hx])
  · rw [List.append_nil, hspec ds hlen, hv]
    exact hV
theorem pow_of_third {W : World} {a b : String × DataW Unit} (h : laidMet Tryz.prog [a, b, ("internal/strconv.uint64pow10", Lib.tabData .u64 Lib.pow10Tab)] W) : Pow W :=
  Lib.tabIs_of_head (g := 1) (t := 141) (e := 122) (n := 20) (by kernel_rfl) (by kernel_rfl) (by kernel_rfl) (by kernel_rfl) (by kernel_rfl) (by kernel_rfl) (laidMet.tail (laidMet.tail h))
end Go.Proofs.YtelmokapdkepbaaGreatDoor
end
section
namespace Go.Proofs.YtelmokapdkepbaaGreatDoor
open Go.RowKit Go.G5

/-- the sum of the masses of the parts of s below k -/
def sumTo (m : List Int) (s : Nat) : Nat → Int
  | 0 => 0
  | k + 1 => if ndiff k s = 0 then sumTo m s k + m.getD k 0 else sumTo m s k
theorem sumTo_bd (m : List Int) (s : Nat) (h : ∀ k, (hk : k < m.length) → -100000 ≤ m[k] ∧ m[k] ≤ 100000) (k : Nat) (hk : k ≤ m.length) : -100000 * (k : Int) ≤ sumTo m s k ∧ sumTo m s k ≤ 100000 * (k : Int) := by
  induction k with
  | zero => simp [sumTo]
  | succ k ih =>
    have h1 := ih (by omega)
    have h2 := h k (by omega)
    rw [sumTo, List.getD_eq_getElem?_getD, List.getElem?_eq_getElem (show k < m.length by omega), Option.getD_some]
    split <;> omega

/-- the values of a function given by its numbers -/
def madeL (F : Nat → Int) (k : Nat) : List Int := (List.range k).map F
theorem madeL_succ (F : Nat → Int) (k : Nat) : madeL F (k + 1) = madeL F k ++ [F k] := by unfold madeL; rw [List.range_succ, List.map_append]; rfl

set_option maxHeartbeats 2000000 in
set_option maxRecDepth 100000 in
theorem makeFunction_any (w : World) (n : Nat) (hn : n ≤ 5) (c : FuncId) (he : ∀ args w, (callFunc c args).run Tryz.prog w = .ok (.enter c args) w) (g : Nat) (F : Nat → Int) (hF : ∀ s, s < 2 ^ n → InR (F s))
    (hw : ∀ (s : Nat) W', s < 2 ^ n → Below w.heap.size w W' → Calls Tryz.prog c #[.int .i64 (s : Int), .pointer (some ⟨g, 0, none⟩)] W' fun e w2 => e = .returned (.int .i64 (F s)) ∧ Below W'.heap.size W' w2) :
    Calls Tryz.prog 179 #[.int .i64 (n : Int), .func (.func c) #[] #[.pointer (some ⟨g, 0, none⟩)]] w fun e w' =>
      ∃ ad i cp, e = .returned (.tuple #[.agg #[.int .i64 (if isFunB n (madeL F (2 ^ n)) then (n : Int) else 0), .slice ad i cp], .bool (isFunB n (madeL F (2 ^ n)))]) ∧ OwnI 3 w.heap.size w' (.slice ad i cp) (if isFunB n (madeL F (2 ^ n)) then madeL F (2 ^ n) else []) ∧ Below w.heap.size w w' := by
  have hpn : (2 : Nat) ^ n ≤ 32 := Nat.pow_le_pow_right (by decide) hn
  have hp1 := Nat.two_pow_pos n
  have hpi : ((2 ^ n : Nat) : Int) = (2 : Int) ^ n := by simp
  obtain ⟨N, hN⟩ : ∃ N : Nat, N = 2 ^ n := ⟨_, rfl⟩
  rw [← hN] at hw hF hpn hp1 hpi ⊢
  clear hN
  have r0 := (BoxAt.new w (.int .i64 0) (.slice none 0 0) 27)
  have r1 := r0.keep (bl1 _ (.cells #[.int .i64 n, .slice none 0 0] 27))
  have b1 := BoxAt.new (w.alloc (.cells #[.int .i64 0, .slice none 0 0] 27)) (.int .i64 n) (.slice none 0 0) 27
  go_enter Tryz.func179, Tryz.ntmps179
  go_wp2_with fail
  go_loopw [13] (fun i wr => ∃ (k : Nat) (ad : Option Addr) (nn cp : Nat), k ≤ N ∧ i = .int .i64 k ∧ OwnI 3 (w.heap.size + 1 + 1) wr (.slice ad nn cp) (madeL F k) ∧ Below w.heap.size w wr ∧
      BoxAt wr w.heap.size (.int .i64 0) (.slice none 0 0) ∧ BoxAt wr (w.heap.size + 1) (.int .i64 n) (.slice ad nn cp))
    (fun i _ => N - (intOf i).toNat)
  case atStart => exact ⟨0, none, 0, 0, Nat.zero_le _, rfl, OwnI.nil _ _ _, (by repeat (first | exact Below.refl _ _ | (with_reducible refine Below.setCell ?_ (by first | omega | (simp; done) | (simp; omega)) _) | (with_reducible refine Below.alloc ?_ (by first | omega | (simp; done) | (simp; omega)) _) | (with_reducible refine Below.drewN' ?_ _) | (with_reducible refine Below.drew ?_) | (with_reducible assumption) | refine Below.trans ?_ (Below.mono (by assumption) (by first | omega | (simp; done) | (simp; omega))))), r1, by simpa using b1⟩
  case round =>
    obtain ⟨k, ad, nn, cp, hk, rfl, ho, B, R, X⟩ := hrel
    clear r0 r1 b1
    by_cases hlt : k < N
    · have hlt2 : (k : Int) < 2 ^ n := by rw [← hpi]; exact_mod_cast hlt
      have zr := R.lt
      have zx := X.lt
      have hFk := hF k hlt
      have hlen : (madeL F k).length = k := by simp [madeL]
      have hlk : (madeL F k).length ≤ 64 := by omega
      have hrow := ho.lt
      have HO := Lib.hid ho
      have HR := Lib.hid R
      have HXX := Lib.hid X
      obtain ⟨e0, e1, g0, g1⟩ := X
      clear ho R
      have hcl := hw k wr.drew hlt B.drew
      clear hw
      go_wp2
      go_region_law
        (first
          | (go_simp; go_at_fn c; refine hcl.mono ?_; rintro e w2 ⟨rfl, hb2⟩; have X2 := HXX.out.keep ((Below.refl _ _).drew.after hb2 (Nat.le_refl _)); have X3 := X2.keep (bl1 w2 (.cells #[.int .i64 (F k)] 3)); have zz2 := X2.lt; have x1 := X2.d1; have x2 := X2.f1; have x3 := X3.d1; have x4 := X3.f1)
          | (refine step_appendI rfl _ _ _ rfl 3 Tryz.underlying22 intElem (w.heap.size + 1 + 1) _ _ (F k) w2.heap.size rfl rfl (cell_new w2 #[.int .i64 (F k)] 3 0 _ rfl) ((HO.out.keep ((Below.refl _ _).drew.after hb2 (Nat.le_refl _))).alloc (.cells #[.int .i64 (F k)] 3)) hFk (by omega) (by simp; omega) ?_; intro v' w6 hown hgr; obtain ⟨av, nv, cv, rfl⟩ := hown.shape3; have X6 := X3.grow hgr (fun e => by have := (hrow _ e).1; omega); obtain ⟨i0, i1, j0, j1⟩ := X6))
      all_goals
       have B6 : Below w.heap.size w w6 := (((B.drew).after hb2 B.size).alloc (B.drew.after hb2 B.size).size (.cells #[.int .i64 (F k)] 3)).grown hgr (by simp; omega) (fun q hq => by have := (hrow q hq).1; omega)
       have R6 := ((HR.out.keep ((Below.refl _ _).drew.after hb2 (Nat.le_refl _))).keep (bl1 w2 (.cells #[.int .i64 (F k)] 3))).grow hgr (fun e => by have := (hrow _ e).1; omega)
       go_wp2
       go_roundw
       case rel => exact ⟨k + 1, av, nv, cv, by omega, by go_num, by rw [madeL_succ]; exact hown.setBelow (by first | omega | (simp; done) | (simp; omega)) _, B6.setCell (by first | omega | (simp; done) | (simp; omega)) _, R6.other (by omega) _, (BoxAt.mk i0 i1 j0 j1).set1 _⟩
       case measure => simp [intOf]; omega
    · have hlt2 : ¬ (k : Int) < 2 ^ n := by rw [← hpi]; exact_mod_cast hlt
      have hkN : k = N := by omega
      subst hkN
      have HO := Lib.hid ho
      have HR := Lib.hid R
      have HXX := Lib.hid X
      obtain ⟨e0, e1, g0, g1⟩ := X
      have hi := ho.ints
      clear ho hw R
      go_wp2_with fail
      refine (isFunI_any n _ _ _ hi).mono ?_
      rintro e w2 ⟨rfl, hb2⟩
      have B2 := B.after hb2 B.size
      have o2 := HO.out.keep hb2
      have HO2 := Lib.hid o2
      obtain ⟨f0, f1, j0, j1⟩ := HR.out.keep hb2
      obtain ⟨i0, i1, q0, q1⟩ := HXX.out.keep hb2
      clear e0 e1 g0 g1 hb2 B o2 hi
      cases hf : isFunB n (madeL F k) with
      | false =>
        have HF := Lib.hid hf
        go_wp2
        all_goals refine bodyPost_ret (v := .tuple #[.agg #[.int .i64 0, .slice none 0 0], .bool false]) (by simp [results, Tryz.results179, go_sem, f0, f1]) rfl ⟨none, 0, 0, rfl, OwnI.nil _ _ _, Below.setCell (Below.setCell B2 (Nat.le_refl _) _) (Nat.le_refl _) _⟩
      | true =>
        have HF := Lib.hid hf
        go_wp2
        refine bodyPost_ret (v := .tuple #[.agg #[.int .i64 n, .slice ad nn cp], .bool true]) (by simp [results, Tryz.results179, go_sem, f0, f1]) rfl ⟨ad, nn, cp, rfl, ?_, ?_⟩
        · exact ((HO2.out.setBelow (by first | omega | (simp; done) | (simp; omega)) _).setBelow (by first | omega | (simp; done) | (simp; omega)) _).mono (by first | omega | (simp; done) | (simp; omega))
        · exact Below.setCell (Below.setCell B2 (Nat.le_refl _) _) (Nat.le_refl _) _
end Go.Proofs.YtelmokapdkepbaaGreatDoor
end
section
namespace Go.Proofs.YtelmokapdkepbaaGreatDoor
open Go.RowKit Go.G5

/-- the first of the greatest values below t -/
def mxTo (l : List Int) : Nat → Nat
  | 0 => 0
  | t + 1 => if l.getD (mxTo l t) 0 < l.getD t 0 then t else mxTo l t
theorem mxTo_succ (l : List Int) (t : Nat) : mxTo l (t + 1) = if l.getD (mxTo l t) 0 < l.getD t 0 then t else mxTo l t := rfl
theorem mxTo_lt (l : List Int) : ∀ t, 0 < t → mxTo l t < t := by
  intro t
  induction t with
  | zero => intro h; omega
  | succ t ih =>
    intro _
    rw [mxTo]
    split
    · omega
    · rcases Nat.eq_zero_or_pos t with rfl | h
      · simp [mxTo]
      · have := ih h; omega
theorem mxTo_one (l : List Int) : mxTo l 1 = 0 := by have := mxTo_lt l 1 (by omega); omega
def mxS (n : Int) (l : List Int) : Int := if isFunB n l then (mxTo l l.length : Int) else 0
def mxN (n : Int) (l : List Int) : Int := if isFunB n l then l.getD (mxTo l l.length) 0 else 0
def dgB (N x e : Nat) : Nat := x + (2 ^ N - 2 ^ e)
/-- the set that grows, behind e elements -/
def dgTo (l : List Int) (N : Nat) : Nat → Nat
  | 0 => 0
  | e + 1 => if l.getD (ndiff (dgB N (dgTo l N e) e) (2 ^ e)) 0 - l.getD (dgB N (dgTo l N e) e) 0 ≤ gainL l (dgTo l N e) e then setBit (dgTo l N e) e else dgTo l N e
def dgS (n : Int) (l : List Int) : Int := if isFunB n l then (dgTo l n.toNat n.toNat : Int) else 0
theorem dg_f1 : ∀ N, N < 6 → ∀ e, e < N → ∀ x, x < 32 → x < 2 ^ e → (setBit x e = x + 2 ^ e ∧ ndiff (dgB N x e) (2 ^ e) = dgB N x (e + 1)) := by decide +kernel
theorem dg_f2 : ∀ N, N < 6 → ∀ e, e < N → ∀ x, x < 32 → x < 2 ^ e → (dgB N (x + 2 ^ e) (e + 1) = dgB N x e ∧ dgB N x e < 2 ^ N) := by decide +kernel
theorem dg_f3 : ∀ N, N < 6 → ∀ e, e < N → ∀ x, x < 32 → x < 2 ^ e → (2 ^ e ≤ dgB N x e ∧ dgB N x e - 2 ^ e = dgB N x (e + 1)) := by decide +kernel
theorem dg_f4 : ∀ N, N < 6 → ∀ e, e < N → ∀ x, x < 32 → x < 2 ^ e → (dgB N x (e + 1) < 2 ^ N ∧ x + 2 ^ e < 2 ^ N) := by decide +kernel
theorem dg_facts (N : Nat) (hN : N < 6) (e : Nat) (he : e < N) (x : Nat) (hx : x < 32) (h : x < 2 ^ e) : (setBit x e = x + 2 ^ e ∧ ndiff (dgB N x e) (2 ^ e) = dgB N x (e + 1)) ∧ (dgB N (x + 2 ^ e) (e + 1) = dgB N x e ∧ dgB N x e < 2 ^ N) ∧ ((2 ^ e ≤ dgB N x e ∧ dgB N x e - 2 ^ e = dgB N x (e + 1)) ∧ (dgB N x (e + 1) < 2 ^ N ∧ x + 2 ^ e < 2 ^ N)) :=
  ⟨dg_f1 N hN e he x hx h, dg_f2 N hN e he x hx h, dg_f3 N hN e he x hx h, dg_f4 N hN e he x hx h⟩
theorem pop_le5 : ∀ n : Nat, n < 6 → ∀ s, s < 32 → s < 2 ^ n → pop s ≤ n := by decide +kernel
theorem dgTo_lt (l : List Int) (N : Nat) (hN : N ≤ 5) : ∀ e, e ≤ N → dgTo l N e < 2 ^ e := by
  intro e
  induction e with
  | zero => intro _; exact Nat.one_pos
  | succ e ih =>
    intro he
    have h := ih (by omega)
    have hp : (2 : Nat) ^ (e + 1) = 2 * 2 ^ e := by rw [Nat.pow_succ]; omega
    have h5 : (2 : Nat) ^ e ≤ 32 := Nat.pow_le_pow_right (n := 2) (j := 5) (by decide) (by omega)
    rw [dgTo]
    split
    · rw [(dg_facts N (by omega) e (by omega) _ (by omega) h).1.1]; omega
    · omega
theorem dgTo_succ (l : List Int) (N e : Nat) : dgTo l N (e + 1) = if l.getD (ndiff (dgB N (dgTo l N e) e) (2 ^ e)) 0 - l.getD (dgB N (dgTo l N e) e) 0 ≤ gainL l (dgTo l N e) e then setBit (dgTo l N e) e else dgTo l N e := rfl
theorem dgB_zero (N : Nat) : dgB N 0 0 = 2 ^ N - 1 := by unfold dgB; simp
theorem bitN_is (y e : Nat) (hy : y < 64) (he : e < 6) : bits .andNot .i64 (y : Int) (2 ^ e) = ((ndiff y (2 ^ e) : Nat) : Int) := by
  have hp := Nat.pow_lt_pow_right (show 1 < 2 by decide) he
  have := bitsN y (2 ^ e) hy (by simp at hp; omega)
  rw [← this]; push_cast; rfl
theorem bd_at {l : List Int} (h : ∀ k, (hk : k < l.length) → -1000 ≤ l[k] ∧ l[k] ≤ 1000) (i : Nat) : -1000 ≤ l.getD i 0 ∧ l.getD i 0 ≤ 1000 := by
  by_cases hi : i < l.length
  · rw [getD_at l i hi]; exact h i hi
  · have e : l.getD i 0 = 0 := by unfold List.getD; rw [List.getElem?_eq_none (by omega)]; rfl
    rw [e]; omega
end Go.Proofs.YtelmokapdkepbaaGreatDoor
end
