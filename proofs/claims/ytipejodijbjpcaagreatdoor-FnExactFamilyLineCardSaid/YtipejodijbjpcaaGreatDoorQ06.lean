/- Numerals: the first program. The frame of a law's row whose condition lays the library's tables. Rows of texts that the call has made: append, join, contains. Numbers that are joined: the first program. Numbers that are joined: the second program. Small functions of numbers. Sets as numbers: sizes and bits. -/
import Derived.Test.YtipejodijbjpcaaGreatDoorQ05
import Derived.Lib.SmallJoins
import Derived.LaidMore
import Derived.Stop.LaidErr
import Derived.Stop.Joined
import Derived.MakeChecks
import Derived.Laws.AppendOwn
import Derived.OwnWalk
import Derived.Deep.Light
import Derived.Laws.BitsAllLaws
section
namespace Go.Proofs.YtipejodijbjpcaaGreatDoor
open Go.RowKit Go.G5

/-- the table that strconv reads holds the powers of ten -/
def Pow (w : World) : Prop := Lib.TabIs Tryz.prog w "internal/strconv.uint64pow10" .u64 Lib.pow10Tab
theorem pow_named : (Tryz.prog.globalNamed "internal/strconv.uint64pow10").isSome = true := by kernel_rfl
theorem Pow.keep {w w' : World} (h : Pow w) (hb : Below w.heap.size w w') : Pow w' := by
  obtain ⟨g, hg⟩ := Option.isSome_iff_exists.1 pow_named
  exact Go.Joins.var_stays hg h hb (Nat.le_refl _)
theorem below_more (w : World) (k : Nat) (os : Array Obj) : Below w.heap.size w (Sort.grow (w.drewN k) os) := by
  refine ⟨rfl, rfl, rfl, ?_, fun b hb => ?_⟩
  · show w.heap.size ≤ (w.heap ++ os).size
    simp
  · show (w.heap ++ os)[b]? = w.heap[b]?
    rw [Array.getElem?_append_left hb]
set_option maxRecDepth 100000 in
theorem fmtI_any (n : Int) (hn : InR n) (w : World) (hp : Pow w) :
    Calls Tryz.prog 206 #[.int .i64 n] w fun e w' => e = .returned (.string (itoaB n)) ∧ Below w.heap.size w w' := by
  go_enter Tryz.func206, Tryz.ntmps206
  go_wp2_with (go_at_call 302; refine (sh_strconv_Itoa n hn.1 hn.2 _ hp).mono ?_; rintro e w' ⟨rfl, k, os, rfl⟩)
  go_ret
  exact ⟨rfl, below_more w k os⟩
end Go.Proofs.YtipejodijbjpcaaGreatDoor
end
section
namespace Go.Proofs.YtipejodijbjpcaaGreatDoor
open Go.ChangeShapes Go.WideShapes Go.ChangeAt Go.RowKit Go.G5
set_option maxRecDepth 100000

/-- THE FRAME OF A LAW's ROW, with tables laid: the call returns true and of old memory nothing turns -/
theorem law_lift_laid {f : FuncId} {fn : Func} {s : ChangeSpec} (laid : List (String × DataW Unit)) (os : Os) (started : os.Started) (H : Type) (enc : TypeId × Value → H)
    (hfn : Tryz.prog.funcs[f]? = some fn) (noInit : Tryz.prog.inits.idxOf? f = none) (hv : s.vars = []) (hres : fn.resultTypes = #[4])
    (hread : (fn.params.toList.all fun t => Tryz.prog.readableRec t && decide (t < Tryz.prog.types.size)) = true)
    (hspec : ∀ ds : List (DataW H), ds.length = fn.params.size → s.fn H ds = { results := [.lit (.bool true)], args := ds, vars := [] })
    (witness : ∃ (w : World) (tape : Tape) (i : Input), w.os = os ∧ (w.forCall tape i).Shaped Tryz.prog ∧ i.vars = [] ∧ Input.okWide Tryz.prog (w.forCall tape i) .any w.heap.size f i ∧
      ((s.pre enc Tryz.prog fn [] false (w.forCall tape i).memory i.args ∧ laidMetH Tryz.prog laid (w.forCall tape i).memory) ∧ sizedMet enc Tryz.prog fn (OpenSpec.ofChange s) false (w.forCall tape i).memory i.args) ∧ ({} : Assume).holds Tryz.prog (lone (Frame.enter Tryz.prog f i.args .normal) [] (w.forCall tape i)))
    (contract : ∀ (W : World) (base : Nat) (args : Array Value) (ds : List (DataW H)) (p : List MemPlace), (∀ (j : Nat) t v, fn.params[j]? = some t → args[j]? = some v → Value.okWide Tryz.prog W .any base t v) →
      DataW.TrodAll enc Tryz.prog W 0 (fun _ => true) true fn.params.toList args.toList ds p → laidMetH Tryz.prog laid W → Calls Tryz.prog f args W fun e W' => e = .returned (.bool true) ∧ Below W.heap.size W W') :
    ReturnsInHanded {} Tryz.checked os f .any (fun w args => (s.pre enc Tryz.prog fn [] false w args ∧ laidMetH Tryz.prog laid w) ∧ sizedMet enc Tryz.prog fn (OpenSpec.ofChange s) false w args) (s.post enc Tryz.prog fn false true false false) := by
  refine returnsInHanded_of_change_and (C := Tryz.checked) (X := fun w _ => laidMetH Tryz.prog laid w) (fun _ _ _ hh h => h.of_heap hh) own started noInit hfn witness ?_
  intro W base args ds gs before hval0 hW hcnd _ hL _
  have hval : ∀ (j : Nat) t v, fn.params[j]? = some t → args[j]? = some v → Value.okWide Tryz.prog W .any base t v := hval0
  have hlt0 := hW.lt
  have hW' := hW
  obtain ⟨p, q, hA0, hV, rfl, hfz, hnd⟩ := hW
  have hA : DataW.TrodAll enc Tryz.prog W 0 (fun _ => true) true fn.params.toList args.toList ds p := hA0
  rw [hv] at hV
  obtain ⟨rfl, rfl⟩ := trodVars_none hV
  refine (contract W base args ds p hval hA hL).mono fun e W' ⟨he, hb⟩ => ?_
  have hlen : ds.length = fn.params.size := by
    have := trodAll_len hA
    simpa using this
  refine ⟨_, he, ds, [], p ++ [], [], p, [], hW', ?_, ?_, ?_, hb.frame _, fun h => by cases h⟩
  · rw [List.append_nil, hspec ds hlen, hres]
    exact trodAll_mk1 (shut_bool Tryz.underlying4 true)
  · rw [List.append_nil, hspec ds hlen]
    exact trodAll_below laidOut hb hread hA fun x hx => by simpa using hlt0 x (by simp [hx])
  · rw [List.append_nil, hspec ds hlen, hv]
    exact hV
theorem pow_of_third {W : World} {a b : String × DataW Unit} (h : laidMet Tryz.prog [a, b, ("internal/strconv.uint64pow10", Lib.tabData .u64 Lib.pow10Tab)] W) : Pow W :=
  Lib.tabIs_of_head (g := 3) (t := 256) (e := 163) (n := 20) (by kernel_rfl) (by kernel_rfl) (by kernel_rfl) (by kernel_rfl) (by kernel_rfl) (by kernel_rfl) (laidMet.tail (laidMet.tail h))
end Go.Proofs.YtipejodijbjpcaaGreatDoor
end
section
namespace Go.G5
open Go Go.RowKit
structure StrElem (P : Program) (E : TypeId) : Prop where
  info : (P.info? E).map (fun i => (i.zero, i.size, i.bytes)) = some (some (.string ByteArray.empty), 1, 16)
theorem StrElem.get {P : Program} {E : TypeId} (h : StrElem P E) : ∃ i, P.info? E = some i ∧ i.zero = some (.string ByteArray.empty) ∧ i.size = 1 ∧ i.bytes = 16 := info_parts h.info
/-- the slice value v owns a row from block B on that reads as the texts xs -/
def OwnS (E : TypeId) (B : Nat) (w : World) (v : Value) (xs : List ByteArray) : Prop := w.ownsRow B E 1 v xs.length (xs.map Value.string)
theorem OwnS.nil (E : TypeId) (B : Nat) (w : World) : OwnS E B w (.slice none 0 0) [] := World.ownsRow_nil _ _ _ _
theorem OwnS.below {E : TypeId} {B B' : Nat} {w w' : World} {v : Value} {l : List ByteArray} (h : OwnS E B w v l) (hb : Below B' w w') (hB : w.heap.size ≤ B') : OwnS E B w' v l := by
  obtain ⟨h0, h1⟩ := h
  refine ⟨h0, ?_⟩
  rcases h1 with h1 | ⟨g, cap, cur, rfl, hBg, hg, r⟩
  · exact .inl h1
  · exact .inr ⟨g, cap, cur, rfl, hBg, by rw [hb.block g (by have := (Array.getElem?_eq_some_iff.1 hg).1; omega)]; exact hg, r⟩
theorem OwnS.keep {E : TypeId} {B : Nat} {W w1 : World} {v : Value} {l : List ByteArray} (h : OwnS E B W v l) (hb : Below W.heap.size W w1) : OwnS E B w1 v l := h.below hb (Nat.le_refl _)
theorem OwnS.alloc {E : TypeId} {B : Nat} {w : World} {v : Value} {l : List ByteArray} (h : OwnS E B w v l) (o : Obj) : OwnS E B (w.alloc o) v l := h.keep (bl1 w o)
theorem OwnS.drewN {E : TypeId} {B : Nat} {w : World} {v : Value} {l : List ByteArray} (h : OwnS E B w v l) (n : Nat) : OwnS E B (w.drewN n) v l := h.keep ((Below.refl w.heap.size w).drewN' n)
theorem OwnS.mono {E : TypeId} {B B' : Nat} {w : World} {v : Value} {l : List ByteArray} (h : OwnS E B w v l) (hB : B' ≤ B) : OwnS E B' w v l := by
  obtain ⟨h0, h1⟩ := h
  refine ⟨h0, ?_⟩
  rcases h1 with h1 | ⟨g, cap, cur, rfl, hBg, r⟩
  · exact .inl h1
  · exact .inr ⟨g, cap, cur, rfl, by omega, r⟩
theorem OwnS.lt {E : TypeId} {B : Nat} {w : World} {v : Value} {l : List ByteArray} (h : OwnS E B w v l) : ∀ k, v.ownBlock = some k → B ≤ k ∧ k < w.heap.size := World.ownsRow.lt h
theorem OwnS.grown {E : TypeId} {B : Nat} {w w' : World} {row : Option Nat} {v : Value} {l : List ByteArray} (h : OwnS E B w v l) (hg : w.grownBy w' row) (hne : v.ownBlock = none ∨ v.ownBlock ≠ row) : OwnS E B w' v l := World.ownsRow.kept h hg hne
theorem OwnS.lit {E : TypeId} {B : Nat} (w : World) (xs : List ByteArray) (n : Nat) (hn : n = xs.length) (hl : n ≤ maxLen) (hB : B ≤ w.heap.size) : OwnS E B (w.alloc (.cells (xs.map Value.string).toArray E)) (.slice (some ⟨w.heap.size, 0, none⟩) n n) xs := by
  subst hn
  have this : (w.alloc (.cells (xs.map Value.string).toArray E)).ownsRow B E 1 (.slice (some ⟨w.heap.size, 0, none⟩) xs.length xs.length) xs.length (xs.map Value.string).toArray.toList := World.ownsRow_lit w _ xs.length hB hl (by simp)
  simpa [OwnS] using this
/-- where the texts lie -/
theorem OwnS.at {E : TypeId} {B : Nat} {w : World} {v : Value} {xs : List ByteArray} (h : OwnS E B w v xs) : (∃ a c, v = .slice a 0 c ∧ xs = []) ∨ ∃ g c, v = .slice (some ⟨g, 0, none⟩) xs.length c ∧ xs.length ≤ c ∧ g < w.heap.size ∧ ∀ (j : Nat) x, xs[j]? = some x → w.cell? ⟨g, 0 + j, none⟩ = some (.string x) := by
  have h2 := h
  obtain ⟨h0, h1⟩ := h
  rcases h1 with ⟨rfl, hn⟩ | ⟨g, cap, cur, rfl, hB, hg, hn, hm, hcs, ht⟩
  · exact .inl ⟨none, 0, rfl, List.eq_nil_of_length_eq_zero hn⟩
  · refine .inr ⟨g, cap, rfl, hn, (Array.getElem?_eq_some_iff.1 hg).1, fun j x hx => ?_⟩
    have hj : j < xs.length := (List.getElem?_eq_some_iff.1 hx).1
    rw [Nat.zero_add, World.ownsRow.cellAt h2 j (by omega)]
    simp [hx]
theorem OwnS.shape3 {E : TypeId} {B : Nat} {w : World} {v : Value} {xs : List ByteArray} (h : OwnS E B w v xs) : ∃ a n c, v = .slice a n c := by
  rcases h.at with ⟨a, c, rfl, _⟩ | ⟨g, c, rfl, _⟩
  · exact ⟨_, _, _, rfl⟩
  · exact ⟨_, _, _, rfl⟩
/-- out = append(out, ys...), ys the texts of a fresh row -/
theorem wpList_appendT {P : Program} {w : World} {ops : Array Oper} {rest : List Oper} {o : Oper} {a : Act} {Q : Exit → Act → World → Prop} (hgd : o.guard = none) (s x : Operand) (t : TypeId)
    (ho : o.op = .call { callee := .builtin .append, args := #[s, x], argTypes := #[t, t] })
    (E : TypeId) (ht : P.underlying t = some (.slice E)) (hE : StrElem P E) (B : Nat) (v : Value) (l ys : List ByteArray) (b m c : Nat) (hs : a.eval s = v) (hx : a.eval x = .slice (some ⟨b, 0, none⟩) m c) (hm : m = ys.length)
    (hy : ∀ (j : Nat) y, ys[j]? = some y → w.cell? ⟨b, 0 + j, none⟩ = some (.string y))
    (hown : OwnS E B w v l) (hlen : l.length + ys.length < 1000000) (hB : B ≤ w.heap.size)
    (h : ∀ v' w', OwnS E B w' v' (l ++ ys) → w.grownBy w' v.ownBlock → wpList P ops Q rest (a.put o.dst v') w') : wpList P ops Q (o :: rest) a w := by
  obtain ⟨i, hi, hz, h1, h8⟩ := hE.get
  subst hm
  refine wpList_append_own w hgd s x t ho B E i (.string ByteArray.empty) 1 16 ht hi hz h1 h8 rfl (by decide) v l.length (l.map Value.string) hs hown ⟨b, 0, none⟩ ys.length c (ys.map Value.string) hx (by simp) ?_ ?_ ?_ ?_ hB ?_
  · intro j u hj
    rw [List.getElem?_map] at hj
    cases hq : ys[j]? with
    | none => rw [hq] at hj; cases hj
    | some y =>
      rw [hq] at hj
      cases hj
      have := hy j y hq
      have e : (⟨b, 0, none⟩ : Addr).add j = ⟨b, 0 + j, none⟩ := by
        unfold Addr.add
        by_cases hj0 : j = 0
        · subst hj0; simp
        · simp [hj0]
      rw [e]; exact this
  · intro u hu
    obtain ⟨y, _, rfl⟩ := List.mem_map.1 hu
    rfl
  · unfold maxLen; omega
  · omega
  · intro v' w' hown' hg _
    refine h v' w' ?_ hg
    simpa [OwnS] using hown'
/-- make([]string, 0, n) -/
theorem wpList_makeT {P : Program} {w : World} {ops : Array Oper} {rest : List Oper} {o : Oper} {a : Act} {Q : Exit → Act → World → Prop} (hg : o.guard = none) (x c : Operand) (t : TypeId) (hop : o.op = Op.makeSlice t x c)
    (E : TypeId) (ht : P.underlying t = some (.slice E)) (hE : StrElem P E) (n : Nat) (C : Int) (hl : a.eval x = .int .i64 0) (hc : a.eval c = .int .i64 C) (hC : C = (n : Int)) (hn : n ≤ 1000000)
    (hK : ∀ w', OwnS E w.heap.size w' (.slice (some ⟨w.heap.size, 0, none⟩) 0 n) [] → w.grownBy w' none → wpList P ops Q rest (a.put o.dst (.slice (some ⟨w.heap.size, 0, none⟩) 0 n)) w') : wpList P ops Q (o :: rest) a w := by
  obtain ⟨i, hi, hz, h1, h8⟩ := hE.get
  exact wpList_make_own w hg x c t hop w.heap.size E i (.string ByteArray.empty) 1 ht hi hz h1 .i64 .i64 C n hl hc hC (by rw [h8]; omega) (by unfold maxLen; omega) (Nat.le_refl _) hK
end Go.G5
namespace Go.Proofs.YtipejodijbjpcaaGreatDoor
open Go.RowKit Go.G5
theorem strElem : StrElem Tryz.prog 9 := ⟨by kernel_rfl⟩
/-- strings.Join of an own row -/
theorem join_own (B : Nat) (w : World) (v : Value) (xs : List ByteArray) (sep : ByteArray) (h : OwnS 9 B w v xs) (hlen : (joinB sep xs).size ≤ 100000000) (hn : xs.length ≤ 1000000) :
    Calls Tryz.prog 146 #[v, .string sep] w fun e w' => e = .returned (.string (joinB sep xs)) ∧ Below w.heap.size w w' := by
  rcases h.at with ⟨a, c, rfl, rfl⟩ | ⟨g, c, rfl, hc, hg, hcell⟩
  · refine (sh_strings_Join_none a c sep w).mono ?_
    rintro e w' ⟨rfl, rfl⟩
    exact ⟨rfl, Below.refl _ _⟩
  · refine (sh_strings_Join g 0 c xs sep w hcell hg (by omega) hc ?_).mono ?_
    · rw [ba_size] at hlen
      have : (joinB sep xs).data.toList = Lib.join (xs.map (·.data.toList)) sep.data.toList := rfl
      rw [← this]; omega
    · rintro e w' ⟨rfl, hb⟩
      exact ⟨rfl, hb⟩
end Go.Proofs.YtipejodijbjpcaaGreatDoor
end
section
namespace Go.Proofs.YtipejodijbjpcaaGreatDoor
open Go.RowKit Go.G5

def comma : ByteArray := ⟨#[44]⟩
theorem commas_size (l : List Int) (h : ∀ x ∈ l, InR x) : (joinB comma (l.map itoaB)).size ≤ l.length * 22 := by
  have := joinB_size comma 21 (l.map itoaB) (fun x hx => by
    obtain ⟨y, hy, rfl⟩ := List.mem_map.1 hx
    exact itoaB_size y (h y hy))
  rw [List.length_map] at this
  exact this
set_option maxHeartbeats 1000000 in
set_option maxRecDepth 100000 in
theorem joinIntsI_any (l : List Int) (v : Value) (w : World) (hv : Ints w v l) (hl : l.length ≤ 1000) (hp : Pow w) :
    Calls Tryz.prog 115 #[v] w fun e w' => e = .returned (.string (joinB comma (l.map itoaB))) ∧ Below w.heap.size w w' := by
  have hin := hv.inR
  have hsz := commas_size l hin
  obtain ⟨a, b, off, c, rfl, hlen, hix, hc, hb⟩ := hv.view Tryz.prog 22 3 Tryz.underlying22 intElem
  have HC := Lib.hid hc
  have HIN := Lib.hid hin
  have HIX := Lib.hid hix
  clear hc hin hix hlen
  go_enter Tryz.func115, Tryz.ntmps115
  go_wp2_with (at_make; refine wpList_makeT rfl _ _ _ rfl 9 Tryz.underlying94 strElem l.length _ rfl rfl rfl (by omega) ?_; intro w2 hown hg)
  have b2 : Below w.heap.size w w2 := (Below.refl _ _).grown hg (Nat.le_refl _) (by simp)
  go_loopw [3, 11] (fun ov iv wr => ∃ (k : Nat) (p : Option Addr) (n cp : Nat), k ≤ l.length ∧ iv = .int .i64 k ∧ ov = .slice p n cp ∧ OwnS 9 w.heap.size wr (.slice p n cp) ((l.take k).map itoaB) ∧ Below w.heap.size w wr) (fun _ iv _ => l.length - (intOf iv).toNat)
  case atStart => exact ⟨0, _, _, _, Nat.zero_le _, rfl, rfl, hown, b2⟩
  case round =>
    obtain ⟨k, p, n, cp, hk, rfl, rfl, ho, B⟩ := hrel
    obtain ⟨wz, rfl⟩ : ∃ q : World, q = wr := ⟨_, rfl⟩
    have hpz := hp.keep B
    clear hown b2 hg
    by_cases hlt : k < l.length
    · have hlt2 : (k : Int) < (l.length : Int) := by omega
      have hrow := cells_below HC.out hb B (Nat.le_refl _)
      have hck := hrow k hlt
      have hik := fun W => HIX.out W k hlt
      have hst : (l.take (k + 1)).map itoaB = (l.take k).map itoaB ++ [itoaB l[k]] := by
        rw [List.take_succ_eq_append_getElem hlt, List.map_append]; rfl
      have hxr := HIN.out l[k] (List.getElem_mem hlt)
      have hkl : ((l.take k).map itoaB).length = k := by simp; omega
      obtain ⟨x, hx⟩ : ∃ x, x = l[k] := ⟨_, rfl⟩
      rw [← hx] at hck hst hxr
      have HST := Lib.hid hst
      have HKL := Lib.hid hkl
      clear hx hrow hst hkl
      have hF := Lib.hid (fmtI_any x hxr wz hpz)
      go_wp2_with fail
      refine hF.out.mono ?_
      rintro e w3 ⟨rfl, b3⟩
      have ho := ho.keep b3
      have B := B.after b3 B.size
      have zB := B.size
      clear b3 hF
      go_wp2_with (at_builtin; refine wpList_appendT rfl _ _ _ rfl 9 Tryz.underlying94 strElem w.heap.size (.slice p n cp) ((l.take k).map itoaB) [itoaB x] w3.heap.size 1 1 rfl rfl rfl (fun j y hy => by match j, hy with | 0, hy => (cases hy; exact cell_new _ _ _ _ _ rfl)) (ho.alloc _) (by rw [HKL.out]; simp; omega) (by simp; omega) ?_; intro v7 w7 o7 g7; obtain ⟨p7, i7, q7, rfl⟩ := o7.shape3)
      have rr := ho.lt
      have B7 := (B.alloc zB (.cells #[.string (itoaB x)] 9)).grown g7 (by simp; omega) (fun q hq => (rr _ hq).1)
      go_roundw
      case rel => exact ⟨k + 1, p7, i7, q7, by omega, by go_num, rfl, by rw [HST.out]; exact o7, B7⟩
      case measure => simp [intOf]; omega
    · have hkl : k = l.length := by omega
      have ho2 : OwnS 9 w.heap.size wz (.slice p n cp) (l.map itoaB) := by
        rw [hkl, List.take_length] at ho; exact ho
      have hlt2 : ¬ (k : Int) < (l.length : Int) := by omega
      have HJ := Lib.hid (join_own w.heap.size wz _ (l.map itoaB) comma ho2 (by omega) (by rw [List.length_map]; omega))
      clear hkl ho ho2 hpz
      go_wp2_with fail
      refine HJ.out.mono ?_
      rintro e w3 ⟨rfl, b3⟩
      go_wp2
      go_ret
      exact ⟨rfl, B.after b3 B.size⟩
end Go.Proofs.YtipejodijbjpcaaGreatDoor
end
section
namespace Go.Proofs.YtipejodijbjpcaaGreatDoor
open Go.RowKit Go.G5

def noneB : ByteArray := ⟨#[110, 111, 110, 101]⟩
def numB (l : List Int) : ByteArray := if l = [] then noneB else joinB comma (l.map itoaB)
theorem commas_take (l : List Int) (k : Nat) (h : ∀ x ∈ l, InR x) (hl : l.length ≤ 1000) (hk : k ≤ l.length) : (joinB comma ((l.take k).map itoaB)).size ≤ 22000 := by
  have h1 := commas_size (l.take k) (fun x hx => h x (List.mem_of_mem_take hx))
  rw [List.length_take] at h1
  have : min k l.length = k := by omega
  rw [this] at h1
  omega
theorem commas_next (l : List Int) (k : Nat) (hk : k < l.length) : joinB comma ((l.take (k + 1)).map itoaB) = if k = 0 then itoaB l[k] else joinB comma ((l.take k).map itoaB) ++ comma ++ itoaB l[k] := by
  have h := joinB_take comma (l.map itoaB) k (by rw [List.length_map]; exact hk)
  rw [List.getElem_map, ← List.map_take, ← List.map_take] at h
  exact h
theorem commas_emp (l : List Int) : (joinB comma (l.map itoaB) = ByteArray.empty) = (l = []) := by
  refine propext ⟨fun h => ?_, fun h => by subst h; rfl⟩
  cases l with
  | nil => rfl
  | cons x l => exact absurd h (joinB_ne comma (itoaB x) (l.map itoaB) (itoaB_ne x))
theorem str_emp (b : ByteArray) : (b.toList == []) = decide (b = ByteArray.empty) := by
  rw [Lib.toList_data]
  by_cases h : b = ByteArray.empty
  · subst h; rfl
  · rw [decide_eq_false h]
    cases hb : b.data.toList with
    | nil => exact absurd (ba_ext (by rw [hb]; rfl)) h
    | cons x r => rfl

set_option maxHeartbeats 1000000 in
set_option maxRecDepth 100000 in
theorem numS_any (l : List Int) (v : Value) (w : World) (hv : Ints w v l) (hl : l.length ≤ 1000) :
    Calls Tryz.prog 77 #[v] w fun e w' => e = .returned (.string (numB l)) ∧ Below w.heap.size w w' := by
  have hin := hv.inR
  obtain ⟨a, b, off, c, rfl, hlen, hix, hc, hb⟩ := hv.view Tryz.prog 22 3 Tryz.underlying22 intElem
  have HC := Lib.hid hc
  have HIN := Lib.hid hin
  have HIX := Lib.hid hix
  clear hc hin hix hlen
  go_enter Tryz.func77, Tryz.ntmps77
  go_wp2_with fail
  go_loopw [3, 4] (fun sv iv wr => ∃ (k : Nat) (S : ByteArray), k ≤ l.length ∧ iv = .int .i64 k ∧ sv = .string S ∧ S = joinB comma ((l.take k).map itoaB) ∧ Below w.heap.size w wr) (fun _ iv _ => l.length - (intOf iv).toNat)
  case atStart => exact ⟨0, _, Nat.zero_le _, rfl, rfl, rfl, Below.refl _ _⟩
  case round =>
    obtain ⟨k, S, hk, rfl, rfl, hS, B⟩ := hrel
    obtain ⟨wz, rfl⟩ : ∃ q : World, q = wr := ⟨_, rfl⟩
    have hSs : S.size ≤ 22000 := by rw [hS]; exact commas_take l k HIN.out hl hk
    by_cases hlt : k < l.length
    · have hlt2 : (k : Int) < (l.length : Int) := by omega
      have hck := cells_below HC.out hb B (Nat.le_refl _) k hlt
      have hik := fun W => HIX.out W k hlt
      have hnx := commas_next l k hlt
      have hxr := HIN.out l[k] (List.getElem_mem hlt)
      rw [← hS] at hnx
      have hS0 : k = 0 → S = ByteArray.empty := fun h => by rw [hS, h]; rfl
      obtain ⟨x, hx⟩ : ∃ x, x = l[k] := ⟨_, rfl⟩
      rw [← hx] at hck hnx hxr
      have hT := itoaB_size x hxr
      have hF := fmtS_any x hxr wz
      obtain ⟨T, hTe⟩ : ∃ T, T = itoaB x := ⟨_, rfl⟩
      rw [← hTe] at hnx hT hF
      have HF := Lib.hid hF
      have HNX := Lib.hid hnx
      clear hF hnx hx hTe hS
      by_cases hk0 : k = 0
      · have hSe := hS0 hk0
        subst hSe
        have HK0 := Lib.hid hk0
        have hgt : ¬ 0 < (k : Int) := by omega
        have hgt2 : ¬ 0 < k := by omega
        clear hS0 hk0
        go_wp2_with fail
        refine HF.out.mono ?_
        rintro e w3 ⟨rfl, b3⟩
        have B := B.after b3 B.size
        go_wp2
        go_roundw
        case rel => exact ⟨k + 1, _, by omega, by go_num, rfl, by rw [HNX.out, if_pos HK0.out], B⟩
        case measure => simp [intOf]; omega
      · have hgt : 0 < (k : Int) := by omega
        have hgt2 : 0 < k := by omega
        have hS2 : (S ++ comma).size ≤ 22001 := by rw [ByteArray.size_append]; show S.size + 1 ≤ 22001; omega
        clear hS0
        go_wp2_with fail
        refine HF.out.mono ?_
        rintro e w3 ⟨rfl, b3⟩
        have B := B.after b3 B.size
        go_wp2
        go_roundw
        case rel => exact ⟨k + 1, _, by omega, by go_num, rfl, by rw [HNX.out, if_neg hk0]; rfl, B⟩
        case measure => simp [intOf]; omega
    · have hlt2 : ¬ (k : Int) < (l.length : Int) := by omega
      have hSl : S = joinB comma (l.map itoaB) := by rw [hS, show k = l.length by omega, List.take_length]
      have hem := str_emp S
      have he2 : decide (S = ByteArray.empty) = decide (l = []) := by rw [hSl]; simp only [commas_emp]
      rw [he2] at hem
      cases h0 : decide (l = []) with
      | true =>
        have hl0 : numB l = noneB := by unfold numB; rw [if_pos (of_decide_eq_true h0)]
        rw [h0] at hem
        have HL0 := Lib.hid hl0
        clear h0 he2 hSl hl0 hS
        go_wp2
        go_ret
        exact ⟨ret_str HL0.out.symm, B⟩
      | false =>
        have hl0 : numB l = S := by unfold numB; rw [if_neg (of_decide_eq_false h0)]; exact hSl.symm
        rw [h0] at hem
        have HL0 := Lib.hid hl0
        clear h0 he2 hSl hl0 hS
        go_wp2
        go_ret
        exact ⟨ret_str HL0.out.symm, B⟩
end Go.Proofs.YtipejodijbjpcaaGreatDoor
end
section
namespace Go.Proofs.YtipejodijbjpcaaGreatDoor
open Go.RowKit Go.G5

def inB (n lo hi : Int) : Bool := decide (lo ≤ n) && decide (n ≤ hi)
theorem inB_true {n lo hi : Int} : inB n lo hi = true ↔ lo ≤ n ∧ n ≤ hi := by simp [inB]
theorem inB_false {n lo hi : Int} : inB n lo hi = false ↔ n < lo ∨ hi < n := by
  unfold inB; by_cases h1 : lo ≤ n <;> by_cases h2 : n ≤ hi <;> simp [h1, h2] <;> omega

theorem within_any (n lo hi : Int) (w : World) :
    Calls Tryz.prog 143 #[.int .i64 n, .int .i64 lo, .int .i64 hi] w fun e w' => e = .returned (.bool (inB n lo hi)) ∧ w = w' := by
  unfold inB
  by_cases h1 : lo ≤ n
  · go_enter Tryz.func143, Tryz.ntmps143
    go_wp2
    go_ret
    exact ⟨by simp [h1], rfl⟩
  · have h2 : decide (lo ≤ n) = false := by simpa using h1
    go_enter Tryz.func143, Tryz.ntmps143
    go_wp2
    go_ret
    exact ⟨ret_bool (by simp), rfl⟩

theorem l1In_any (n lo hi : Int) (w : World) :
    Calls Tryz.prog 188 #[.int .i64 n, .int .i64 lo, .int .i64 hi] w fun e w' => e = .returned (.bool (inB n lo hi)) ∧ w = w' := by
  unfold inB
  by_cases h1 : lo ≤ n
  · go_enter Tryz.func188, Tryz.ntmps188
    go_wp2
    go_ret
    exact ⟨by simp [h1], rfl⟩
  · have h2 : decide (lo ≤ n) = false := by simpa using h1
    go_enter Tryz.func188, Tryz.ntmps188
    go_wp2
    go_ret
    exact ⟨ret_bool (by simp), rfl⟩

def fact : Nat → Nat
  | 0 => 1
  | n + 1 => (n + 1) * fact n
theorem fact_mono (a b : Nat) (h : a ≤ b) : fact a ≤ fact b := by
  induction b with
  | zero => have : a = 0 := by omega
            subst this; exact Nat.le_refl _
  | succ b ih =>
    by_cases hb : a ≤ b
    · have := ih hb
      calc fact a ≤ fact b := this
        _ ≤ (b + 1) * fact b := Nat.le_mul_of_pos_left _ (by omega)
    · have : a = b + 1 := by omega
      subst this; exact Nat.le_refl _
def factOf (n : Int) : Int := if inB n 0 12 then fact n.toNat else -1
theorem fact_12 : fact 12 = 479001600 := by decide

theorem fact_le (k : Nat) (h : k ≤ 12) : fact k ≤ 479001600 := fact_12 ▸ fact_mono k 12 h

def harm (n : Nat) : Int := match n with
  | 0 => 0
  | n + 1 => harm n + 60 / ((n : Int) + 1)
def harmOf (n : Int) : Int := if inB n 0 6 then harm n.toNat else -1
theorem harm_bd (n : Nat) : 0 ≤ harm n ∧ harm n ≤ 60 * n := by
  induction n with
  | zero => simp [harm]
  | succ n ih =>
    have h1 : 60 / ((n : Int) + 1) ≤ 60 := Int.ediv_le_self _ (by omega)
    have h2 : 0 ≤ 60 / ((n : Int) + 1) := Int.ediv_nonneg (by omega) (by omega)
    simp only [harm]; omega

/-! words of claims -/
def claimWord (k : Int) : ByteArray :=
  if k = 1 then ⟨#[109, 105, 110, 105, 109, 117, 109]⟩ else if k = 2 then ⟨#[118, 105, 111, 108, 97, 116, 105, 111, 110]⟩ else if k = 3 then ⟨#[98, 97, 115, 101]⟩
  else if k = 4 then ⟨#[99, 111, 109, 109, 111, 110]⟩ else if k = 5 then ⟨#[99, 117, 116]⟩ else if k = 6 then ⟨#[115, 117, 110, 102, 108, 111, 119, 101, 114]⟩ else if k = 7 then ⟨#[104, 97, 108, 108]⟩ else ⟨#[]⟩

theorem claimWordI_any (k : Int) (w : World) :
    Calls Tryz.prog 69 #[.int .i64 k] w fun e w' => e = .returned (.string (claimWord k)) ∧ Below w.heap.size w w' := by
  by_cases hk : 1 ≤ k ∧ k ≤ 7
  · rcases (show k = 1 ∨ k = 2 ∨ k = 3 ∨ k = 4 ∨ k = 5 ∨ k = 6 ∨ k = 7 by omega) with rfl | rfl | rfl | rfl | rfl | rfl | rfl
    all_goals
      go_enter Tryz.func69, Tryz.ntmps69
      go_wp2
      go_ret
      exact ⟨rfl, Below.refl _ _⟩
  · have h1 : (k == 1) = false := by simp; omega
    have h2 : (k == 2) = false := by simp; omega
    have h3 : (k == 3) = false := by simp; omega
    have h4 : (k == 4) = false := by simp; omega
    have h5 : (k == 5) = false := by simp; omega
    have h6 : (k == 6) = false := by simp; omega
    have h7 : (k == 7) = false := by simp; omega
    have hw : claimWord k = ⟨#[]⟩ := by
      unfold claimWord
      rw [if_neg (by omega), if_neg (by omega), if_neg (by omega), if_neg (by omega), if_neg (by omega), if_neg (by omega), if_neg (by omega)]
    have HW := Lib.hid hw
    clear hw
    go_enter Tryz.func69, Tryz.ntmps69
    go_wp2
    go_ret
    exact ⟨by rw [HW.out]; rfl, Below.refl _ _⟩

theorem claimWordS_any (k : Int) (w : World) :
    Calls Tryz.prog 70 #[.int .i64 k] w fun e w' => e = .returned (.string (claimWord k)) ∧ Below w.heap.size w w' := by
  by_cases hk : 1 ≤ k ∧ k ≤ 7
  · rcases (show k = 1 ∨ k = 2 ∨ k = 3 ∨ k = 4 ∨ k = 5 ∨ k = 6 ∨ k = 7 by omega) with rfl | rfl | rfl | rfl | rfl | rfl | rfl
    all_goals
      go_enter Tryz.func70, Tryz.ntmps70
      go_wp2_with (go_at_call 188; refine (l1In_any _ _ _ _).mono ?_; rintro e w' ⟨rfl, rfl⟩)
      go_ret
      exact ⟨rfl, bl1 _ _⟩
  · have hin : inB k 1 7 = false := inB_false.2 (by omega)
    have hw : claimWord k = ⟨#[]⟩ := by
      unfold claimWord
      rw [if_neg (by omega), if_neg (by omega), if_neg (by omega), if_neg (by omega), if_neg (by omega), if_neg (by omega), if_neg (by omega)]
    have HW := Lib.hid hw
    clear hw
    go_enter Tryz.func70, Tryz.ntmps70
    go_wp2_with (go_at_call 188; refine (l1In_any _ _ _ _).mono ?_; rintro e w' ⟨rfl, rfl⟩)
    go_ret
    exact ⟨by rw [HW.out]; rfl, Below.refl _ _⟩

/-! powers -/
theorem pow_le_pow (b k n : Nat) (hb : b ≤ 5) (hkn : k ≤ n) (hn : n ≤ 6) : b ^ k ≤ 15625 := by
  calc b ^ k ≤ 5 ^ k := Nat.pow_le_pow_left hb k
    _ ≤ 5 ^ 6 := Nat.pow_le_pow_right (by omega) (by omega)
    _ = 15625 := by decide

def sunBound (s k : Int) : Int := if inB s 0 6 && inB k 1 5 then ((fact s.toNat * (k - 1).toNat ^ s.toNat : Nat) : Int) else -1

theorem fact6 (n : Nat) (h : n ≤ 6) : fact n ≤ 720 := fact_mono n 6 h

end Go.Proofs.YtipejodijbjpcaaGreatDoor
end
section
namespace Go.Proofs.YtipejodijbjpcaaGreatDoor
open Go.RowKit Go.G5

theorem wraps_i64 (n : Int) (h₀ : 0 ≤ n) (h₁ : n < 2 ^ 62) : IntKind.i64.wrap n = n := by rw [IntKind.wrap_i64]; omega
theorem bitsA (a b : Nat) (ha : a < 2 ^ 62) (hb : b < 2 ^ 62) : bits .and .i64 (a : Int) (b : Int) = ((a &&& b : Nat) : Int) := (bits_nat .i64 62 (by decide) wraps_i64 a b ha hb).1
theorem bitsO (a b : Nat) (ha : a < 2 ^ 62) (hb : b < 2 ^ 62) : bits .or .i64 (a : Int) (b : Int) = ((a ||| b : Nat) : Int) := (bits_nat .i64 62 (by decide) wraps_i64 a b ha hb).2
theorem bitsA1 (a : Nat) (ha : a < 2 ^ 62) : bits .and .i64 (a : Int) 1 = ((a % 2 : Nat) : Int) := by
  have := bitsA a 1 ha (by decide)
  rw [Nat.and_one_is_mod] at this
  exact this
/-- what is in a and not in b -/
def ndiff (a b : Nat) : Nat := a - (a &&& b)
theorem bitsN (a b : Nat) (ha : a < 64) (hb : b < 64) : bits .andNot .i64 (a : Int) (b : Int) = ((ndiff a b : Nat) : Int) := by
  have h : ∀ a, a < 64 → ∀ b, b < 64 → bits .andNot .i64 ((a : Nat) : Int) ((b : Nat) : Int) = ((ndiff a b : Nat) : Int) := by decide +kernel
  exact h a ha b hb
theorem and_lt (a b n : Nat) (ha : a < n) : a &&& b < n := Nat.lt_of_le_of_lt Nat.and_le_left ha
theorem or_lt64 (a b : Nat) (ha : a < 64) (hb : b < 64) : a ||| b < 64 := Nat.or_lt_two_pow (n := 6) ha hb
theorem ndiff_lt (a b n : Nat) (ha : a < n) : ndiff a b < n := by unfold ndiff; omega
theorem two_pow (n m : Nat) (h : n ≤ m) : (2 : Int) ^ n ≤ 2 ^ m ∧ 0 < (2 : Int) ^ n := by
  constructor
  · have := Nat.pow_le_pow_right (show 0 < 2 by decide) h
    exact_mod_cast this
  · have := Nat.two_pow_pos n
    exact_mod_cast this

/-- the number of elements of a set -/
def pop (n : Nat) : Nat := (List.range 64).foldl (fun a i => a + (n >>> i) % 2) 0

theorem ones64_any (n : Nat) (w : World) (h : n < 256) :
    Calls Tryz.prog 338 #[.int .u64 n] w fun e w' => e = .returned (.int .i64 (pop n)) ∧ w = w' := by
  go_enter Tryz.func338, Tryz.ntmps338
  go_wp2
  go_ret
  refine ⟨ret_int ?_, rfl⟩
  clear w
  revert n
  decide +kernel

theorem ones_any (n : Nat) (w : World) (h : n < 256) :
    Calls Tryz.prog 284 #[.int .u64 n] w fun e w' => e = .returned (.int .i64 (pop n)) ∧ w = w' := by
  go_enter Tryz.func284, Tryz.ntmps284
  go_wp2_with (go_at_call 338; refine (ones64_any n _ h).mono ?_; rintro e w' ⟨rfl, rfl⟩)
  go_ret
  exact ⟨rfl, rfl⟩

theorem sizeOf_any (n : Nat) (w : World) (h : n < 256) :
    Calls Tryz.prog 170 #[.int .i64 n] w fun e w' => e = .returned (.int .i64 (pop n)) ∧ w = w' := by
  go_enter Tryz.func170, Tryz.ntmps170
  go_wp2_with (go_at_call 284; refine (ones_any n _ h).mono ?_; rintro e w' ⟨rfl, rfl⟩)
  go_ret
  exact ⟨rfl, rfl⟩

theorem pop_step (n : Nat) (h : n < 256) : pop n = n % 2 + pop (n / 2) := by
  revert n; decide +kernel
theorem pop_zero : pop 0 = 0 := by decide +kernel
theorem pop_le (n : Nat) (h : n < 256) : pop n ≤ 8 := by
  revert n; decide +kernel

theorem l2Full_any (n : Nat) (w : World) (h : n ≤ 40) :
    Calls Tryz.prog 187 #[.int .i64 n] w fun e w' => e = .returned (.int .i64 (2 ^ n - 1)) ∧ w = w' := by
  have h2 := two_pow n 40 h
  have h3 := h2.1
  have h4 := h2.2
  simp at h3
  clear h2
  go_enter Tryz.func187, Tryz.ntmps187
  go_wp2
  go_ret
  exact ⟨rfl, rfl⟩
theorem l2Size_any (n : Nat) (w : World) (h : n < 256) :
    Calls Tryz.prog 173 #[.int .i64 n] w fun e w' => e = .returned (.int .i64 (pop n)) ∧ w = w' := by
  go_enter Tryz.func173, Tryz.ntmps173
  go_wp2
  go_loop [3, 4] (fun s x => ∃ k q : Nat, k < 256 ∧ q + pop k = pop n ∧ s = .int .i64 q ∧ x = .int .i64 k) (fun _ x => (intOf x).toNat)
  case atStart => exact ⟨n, 0, h, by omega, rfl, rfl⟩
  case round =>
    obtain ⟨k, q, hk, hq, rfl, rfl⟩ := hrel
    have hs := pop_step k hk
    have hp := pop_le n h
    have hb := bitsA1 k (by omega)
    have hq8 : q ≤ 8 := by omega
    have hm : k % 2 < 2 := by omega
    have H := Lib.hid hq
    have HS := Lib.hid hs
    clear hs hq
    by_cases h0 : 0 < k
    · go_wp2
      go_round
      case rel => exact ⟨k / 2, q + k % 2, by omega, by have := H.out; have := HS.out; omega, by go_num, by go_num⟩
      case measure => simp [intOf]; omega
    · go_wp2
      go_ret
      refine ⟨ret_int ?_, rfl⟩
      have h1 := H.out
      have h2 : k = 0 := by omega
      rw [h2, pop_zero] at h1
      omega
end Go.Proofs.YtipejodijbjpcaaGreatDoor
end
