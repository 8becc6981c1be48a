/- Numerals: the first program. The frame of a law's row whose condition lays the library's tables. Rows of texts that the call has made: append, join, contains. -/
import Derived.Test.YtelmokapdkepbaaDoorQ05
import Derived.Lib.SmallJoins
import Derived.LaidMore
import Derived.Stop.LaidErr
import Derived.Stop.Joined
import Derived.MakeChecks
import Derived.Laws.AppendOwn
import Derived.OwnWalk
section
namespace Go.Proofs.YtelmokapdkepbaaDoor
open Go.RowKit Go.G5

/-- the table that strconv reads holds the powers of ten -/
def Pow (w : World) : Prop := Lib.TabIs Tryd.prog w "internal/strconv.uint64pow10" .u64 Lib.pow10Tab
theorem pow_named : (Tryd.prog.globalNamed "internal/strconv.uint64pow10").isSome = true := by kernel_rfl
theorem Pow.keep {w w' : World} (h : Pow w) (hb : Below w.heap.size w w') : Pow w' := by
  obtain ⟨g, hg⟩ := Option.isSome_iff_exists.1 pow_named
  exact Go.Joins.var_stays hg h hb (Nat.le_refl _)
theorem below_more (w : World) (k : Nat) (os : Array Obj) : Below w.heap.size w (Sort.grow (w.drewN k) os) := by
  refine ⟨rfl, rfl, rfl, ?_, fun b hb => ?_⟩
  · show w.heap.size ≤ (w.heap ++ os).size
    simp
  · show (w.heap ++ os)[b]? = w.heap[b]?
    rw [Array.getElem?_append_left hb]
set_option maxRecDepth 100000 in
theorem fmtI_any (n : Int) (hn : InR n) (w : World) (hp : Pow w) :
    Calls Tryd.prog 50 #[.int .i64 n] w fun e w' => e = .returned (.string (itoaB n)) ∧ Below w.heap.size w w' := by
  go_enter Tryd.func50, Tryd.ntmps50
  go_wp2_with (go_at_call 70; refine (sh_strconv_Itoa n hn.1 hn.2 _ hp).mono ?_; rintro e w' ⟨rfl, k, os, rfl⟩)
  go_ret
  exact ⟨rfl, below_more w k os⟩
end Go.Proofs.YtelmokapdkepbaaDoor
end
section
namespace Go.Proofs.YtelmokapdkepbaaDoor
open Go.ChangeShapes Go.WideShapes Go.ChangeAt Go.RowKit Go.G5
set_option maxRecDepth 100000

/-- THE FRAME OF A LAW's ROW, with tables laid: the call returns true and of old memory nothing turns -/
theorem law_lift_laid {f : FuncId} {fn : Func} {s : ChangeSpec} (laid : List (String × DataW Unit)) (os : Os) (started : os.Started) (H : Type) (enc : TypeId × Value → H)
    (hfn : Tryd.prog.funcs[f]? = some fn) (noInit : Tryd.prog.inits.idxOf? f = none) (hv : s.vars = []) (hres : fn.resultTypes = #[4])
    (hread : (fn.params.toList.all fun t => Tryd.prog.readableRec t && decide (t < Tryd.prog.types.size)) = true)
    (hspec : ∀ ds : List (DataW H), ds.length = fn.params.size → s.fn H ds = { results := [.lit (.bool true)], args := ds, vars := [] })
    (witness : ∃ (w : World) (tape : Tape) (i : Input), w.os = os ∧ (w.forCall tape i).Shaped Tryd.prog ∧ i.vars = [] ∧ Input.okWide Tryd.prog (w.forCall tape i) .any w.heap.size f i ∧
      ((s.pre enc Tryd.prog fn [] false (w.forCall tape i).memory i.args ∧ laidMetH Tryd.prog laid (w.forCall tape i).memory) ∧ sizedMet enc Tryd.prog fn (OpenSpec.ofChange s) false (w.forCall tape i).memory i.args) ∧ ({} : Assume).holds Tryd.prog (lone (Frame.enter Tryd.prog f i.args .normal) [] (w.forCall tape i)))
    (contract : ∀ (W : World) (base : Nat) (args : Array Value) (ds : List (DataW H)) (p : List MemPlace), (∀ (j : Nat) t v, fn.params[j]? = some t → args[j]? = some v → Value.okWide Tryd.prog W .any base t v) →
      DataW.TrodAll enc Tryd.prog W 0 (fun _ => true) true fn.params.toList args.toList ds p → laidMetH Tryd.prog laid W → Calls Tryd.prog f args W fun e W' => e = .returned (.bool true) ∧ Below W.heap.size W W') :
    ReturnsInHanded {} Tryd.checked os f .any (fun w args => (s.pre enc Tryd.prog fn [] false w args ∧ laidMetH Tryd.prog laid w) ∧ sizedMet enc Tryd.prog fn (OpenSpec.ofChange s) false w args) (s.post enc Tryd.prog fn false true false false) := by
  refine returnsInHanded_of_change_and (C := Tryd.checked) (X := fun w _ => laidMetH Tryd.prog laid w) (fun _ _ _ hh h => h.of_heap hh) own started noInit hfn witness ?_
  intro W base args ds gs before hval0 hW hcnd _ hL _
  have hval : ∀ (j : Nat) t v, fn.params[j]? = some t → args[j]? = some v → Value.okWide Tryd.prog W .any base t v := hval0
  have hlt0 := hW.lt
  have hW' := hW
  obtain ⟨p, q, hA0, hV, rfl, hfz, hnd⟩ := hW
  have hA : DataW.TrodAll enc Tryd.prog W 0 (fun _ => true) true fn.params.toList args.toList ds p := hA0
  rw [hv] at hV
  obtain ⟨rfl, rfl⟩ := trodVars_none hV
  refine (contract W base args ds p hval hA hL).mono fun e W' ⟨he, hb⟩ => ?_
  have hlen : ds.length = fn.params.size := by
    have := trodAll_len hA
    simpa using this
  refine ⟨_, he, ds, [], p ++ [], [], p, [], hW', ?_, ?_, ?_, hb.frame _, fun h => by cases h⟩
  · rw [List.append_nil, hspec ds hlen, hres]
    exact trodAll_mk1 (shut_bool Tryd.underlying4 true)
  · rw [List.append_nil, hspec ds hlen]
    exact trodAll_below laidOut hb hread hA fun x hx => by simpa using hlt0 x (by simp [hx])
  · rw [List.append_nil, hspec ds hlen, hv]
    exact hV
theorem pow_of_third {W : World} {a b : String × DataW Unit} (h : laidMet Tryd.prog [a, b, ("internal/strconv.uint64pow10", Lib.tabData .u64 Lib.pow10Tab)] W) : Pow W :=
  Lib.tabIs_of_head (g := 1) (t := 105) (e := 97) (n := 20) (by kernel_rfl) (by kernel_rfl) (by kernel_rfl) (by kernel_rfl) (by kernel_rfl) (by kernel_rfl) (laidMet.tail (laidMet.tail h))
end Go.Proofs.YtelmokapdkepbaaDoor
end
section
namespace Go.G5
open Go Go.RowKit
structure StrElem (P : Program) (E : TypeId) : Prop where
  info : (P.info? E).map (fun i => (i.zero, i.size, i.bytes)) = some (some (.string ByteArray.empty), 1, 16)
theorem StrElem.get {P : Program} {E : TypeId} (h : StrElem P E) : ∃ i, P.info? E = some i ∧ i.zero = some (.string ByteArray.empty) ∧ i.size = 1 ∧ i.bytes = 16 := info_parts h.info
/-- the slice value v owns a row from block B on that reads as the texts xs -/
def OwnS (E : TypeId) (B : Nat) (w : World) (v : Value) (xs : List ByteArray) : Prop := w.ownsRow B E 1 v xs.length (xs.map Value.string)
theorem OwnS.nil (E : TypeId) (B : Nat) (w : World) : OwnS E B w (.slice none 0 0) [] := World.ownsRow_nil _ _ _ _
theorem OwnS.below {E : TypeId} {B B' : Nat} {w w' : World} {v : Value} {l : List ByteArray} (h : OwnS E B w v l) (hb : Below B' w w') (hB : w.heap.size ≤ B') : OwnS E B w' v l := by
  obtain ⟨h0, h1⟩ := h
  refine ⟨h0, ?_⟩
  rcases h1 with h1 | ⟨g, cap, cur, rfl, hBg, hg, r⟩
  · exact .inl h1
  · exact .inr ⟨g, cap, cur, rfl, hBg, by rw [hb.block g (by have := (Array.getElem?_eq_some_iff.1 hg).1; omega)]; exact hg, r⟩
theorem OwnS.keep {E : TypeId} {B : Nat} {W w1 : World} {v : Value} {l : List ByteArray} (h : OwnS E B W v l) (hb : Below W.heap.size W w1) : OwnS E B w1 v l := h.below hb (Nat.le_refl _)
theorem OwnS.alloc {E : TypeId} {B : Nat} {w : World} {v : Value} {l : List ByteArray} (h : OwnS E B w v l) (o : Obj) : OwnS E B (w.alloc o) v l := h.keep (bl1 w o)
theorem OwnS.drewN {E : TypeId} {B : Nat} {w : World} {v : Value} {l : List ByteArray} (h : OwnS E B w v l) (n : Nat) : OwnS E B (w.drewN n) v l := h.keep ((Below.refl w.heap.size w).drewN' n)
theorem OwnS.mono {E : TypeId} {B B' : Nat} {w : World} {v : Value} {l : List ByteArray} (h : OwnS E B w v l) (hB : B' ≤ B) : OwnS E B' w v l := by
  obtain ⟨h0, h1⟩ := h
  refine ⟨h0, ?_⟩
  rcases h1 with h1 | ⟨g, cap, cur, rfl, hBg, r⟩
  · exact .inl h1
  · exact .inr ⟨g, cap, cur, rfl, by omega, r⟩
theorem OwnS.lt {E : TypeId} {B : Nat} {w : World} {v : Value} {l : List ByteArray} (h : OwnS E B w v l) : ∀ k, v.ownBlock = some k → B ≤ k ∧ k < w.heap.size := World.ownsRow.lt h
theorem OwnS.grown {E : TypeId} {B : Nat} {w w' : World} {row : Option Nat} {v : Value} {l : List ByteArray} (h : OwnS E B w v l) (hg : w.grownBy w' row) (hne : v.ownBlock = none ∨ v.ownBlock ≠ row) : OwnS E B w' v l := World.ownsRow.kept h hg hne
theorem OwnS.lit {E : TypeId} {B : Nat} (w : World) (xs : List ByteArray) (n : Nat) (hn : n = xs.length) (hl : n ≤ maxLen) (hB : B ≤ w.heap.size) : OwnS E B (w.alloc (.cells (xs.map Value.string).toArray E)) (.slice (some ⟨w.heap.size, 0, none⟩) n n) xs := by
  subst hn
  have this : (w.alloc (.cells (xs.map Value.string).toArray E)).ownsRow B E 1 (.slice (some ⟨w.heap.size, 0, none⟩) xs.length xs.length) xs.length (xs.map Value.string).toArray.toList := World.ownsRow_lit w _ xs.length hB hl (by simp)
  simpa [OwnS] using this
/-- where the texts lie -/
theorem OwnS.at {E : TypeId} {B : Nat} {w : World} {v : Value} {xs : List ByteArray} (h : OwnS E B w v xs) : (∃ a c, v = .slice a 0 c ∧ xs = []) ∨ ∃ g c, v = .slice (some ⟨g, 0, none⟩) xs.length c ∧ xs.length ≤ c ∧ g < w.heap.size ∧ ∀ (j : Nat) x, xs[j]? = some x → w.cell? ⟨g, 0 + j, none⟩ = some (.string x) := by
  have h2 := h
  obtain ⟨h0, h1⟩ := h
  rcases h1 with ⟨rfl, hn⟩ | ⟨g, cap, cur, rfl, hB, hg, hn, hm, hcs, ht⟩
  · exact .inl ⟨none, 0, rfl, List.eq_nil_of_length_eq_zero hn⟩
  · refine .inr ⟨g, cap, rfl, hn, (Array.getElem?_eq_some_iff.1 hg).1, fun j x hx => ?_⟩
    have hj : j < xs.length := (List.getElem?_eq_some_iff.1 hx).1
    rw [Nat.zero_add, World.ownsRow.cellAt h2 j (by omega)]
    simp [hx]
theorem OwnS.shape3 {E : TypeId} {B : Nat} {w : World} {v : Value} {xs : List ByteArray} (h : OwnS E B w v xs) : ∃ a n c, v = .slice a n c := by
  rcases h.at with ⟨a, c, rfl, _⟩ | ⟨g, c, rfl, _⟩
  · exact ⟨_, _, _, rfl⟩
  · exact ⟨_, _, _, rfl⟩
/-- out = append(out, ys...), ys the texts of a fresh row -/
theorem wpList_appendT {P : Program} {w : World} {ops : Array Oper} {rest : List Oper} {o : Oper} {a : Act} {Q : Exit → Act → World → Prop} (hgd : o.guard = none) (s x : Operand) (t : TypeId)
    (ho : o.op = .call { callee := .builtin .append, args := #[s, x], argTypes := #[t, t] })
    (E : TypeId) (ht : P.underlying t = some (.slice E)) (hE : StrElem P E) (B : Nat) (v : Value) (l ys : List ByteArray) (b m c : Nat) (hs : a.eval s = v) (hx : a.eval x = .slice (some ⟨b, 0, none⟩) m c) (hm : m = ys.length)
    (hy : ∀ (j : Nat) y, ys[j]? = some y → w.cell? ⟨b, 0 + j, none⟩ = some (.string y))
    (hown : OwnS E B w v l) (hlen : l.length + ys.length < 1000000) (hB : B ≤ w.heap.size)
    (h : ∀ v' w', OwnS E B w' v' (l ++ ys) → w.grownBy w' v.ownBlock → wpList P ops Q rest (a.put o.dst v') w') : wpList P ops Q (o :: rest) a w := by
  obtain ⟨i, hi, hz, h1, h8⟩ := hE.get
  subst hm
  refine wpList_append_own w hgd s x t ho B E i (.string ByteArray.empty) 1 16 ht hi hz h1 h8 rfl (by decide) v l.length (l.map Value.string) hs hown ⟨b, 0, none⟩ ys.length c (ys.map Value.string) hx (by simp) ?_ ?_ ?_ ?_ hB ?_
  · intro j u hj
    rw [List.getElem?_map] at hj
    cases hq : ys[j]? with
    | none => rw [hq] at hj; cases hj
    | some y =>
      rw [hq] at hj
      cases hj
      have := hy j y hq
      have e : (⟨b, 0, none⟩ : Addr).add j = ⟨b, 0 + j, none⟩ := by
        unfold Addr.add
        by_cases hj0 : j = 0
        · subst hj0; simp
        · simp [hj0]
      rw [e]; exact this
  · intro u hu
    obtain ⟨y, _, rfl⟩ := List.mem_map.1 hu
    rfl
  · unfold maxLen; omega
  · omega
  · intro v' w' hown' hg _
    refine h v' w' ?_ hg
    simpa [OwnS] using hown'
/-- make([]string, 0, n) -/
theorem wpList_makeT {P : Program} {w : World} {ops : Array Oper} {rest : List Oper} {o : Oper} {a : Act} {Q : Exit → Act → World → Prop} (hg : o.guard = none) (x c : Operand) (t : TypeId) (hop : o.op = Op.makeSlice t x c)
    (E : TypeId) (ht : P.underlying t = some (.slice E)) (hE : StrElem P E) (n : Nat) (C : Int) (hl : a.eval x = .int .i64 0) (hc : a.eval c = .int .i64 C) (hC : C = (n : Int)) (hn : n ≤ 1000000)
    (hK : ∀ w', OwnS E w.heap.size w' (.slice (some ⟨w.heap.size, 0, none⟩) 0 n) [] → w.grownBy w' none → wpList P ops Q rest (a.put o.dst (.slice (some ⟨w.heap.size, 0, none⟩) 0 n)) w') : wpList P ops Q (o :: rest) a w := by
  obtain ⟨i, hi, hz, h1, h8⟩ := hE.get
  exact wpList_make_own w hg x c t hop w.heap.size E i (.string ByteArray.empty) 1 ht hi hz h1 .i64 .i64 C n hl hc hC (by rw [h8]; omega) (by unfold maxLen; omega) (Nat.le_refl _) hK
end Go.G5
namespace Go.Proofs.YtelmokapdkepbaaDoor
open Go.RowKit Go.G5
theorem strElem : StrElem Tryd.prog 9 := ⟨by kernel_rfl⟩
/-- strings.Join of an own row -/
theorem join_own (B : Nat) (w : World) (v : Value) (xs : List ByteArray) (sep : ByteArray) (h : OwnS 9 B w v xs) (hlen : (joinB sep xs).size ≤ 100000000) (hn : xs.length ≤ 1000000) :
    Calls Tryd.prog 54 #[v, .string sep] w fun e w' => e = .returned (.string (joinB sep xs)) ∧ Below w.heap.size w w' := by
  rcases h.at with ⟨a, c, rfl, rfl⟩ | ⟨g, c, rfl, hc, hg, hcell⟩
  · refine (sh_strings_Join_none a c sep w).mono ?_
    rintro e w' ⟨rfl, rfl⟩
    exact ⟨rfl, Below.refl _ _⟩
  · refine (sh_strings_Join g 0 c xs sep w hcell hg (by omega) hc ?_).mono ?_
    · rw [ba_size] at hlen
      have : (joinB sep xs).data.toList = Lib.join (xs.map (·.data.toList)) sep.data.toList := rfl
      rw [← this]; omega
    · rintro e w' ⟨rfl, hb⟩
      exact ⟨rfl, hb⟩
end Go.Proofs.YtelmokapdkepbaaDoor
end
