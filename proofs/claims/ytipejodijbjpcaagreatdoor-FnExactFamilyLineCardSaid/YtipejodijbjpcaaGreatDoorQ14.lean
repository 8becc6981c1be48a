/- The parts of a line of a report: the first program. -/
import Derived.Test.YtipejodijbjpcaaGreatDoorQ13
import Derived.Maps.AppendAt
section
namespace Go.G5
open Go Go.RowKit
theorem run_append_two {P : Program} {w : World} {t u ty e e' : TypeId} (ht : P.underlying t = some (.slice e)) (hu : P.underlying u = some (.slice e')) (s x : Value) :
    (Builtin.append_ #[t, u] ty #[s, x]).run P w = (Builtin.append_ #[t, t] ty #[s, x]).run P w := by
  unfold Builtin.append_
  cases s with
  | slice b n c => simp [run_underlying ht, run_underlying hu]
  | _ => simp [run_underlying ht]
/-- out = append(out, ys...), the two slices of two types -/
theorem wpList_appendT2 {P : Program} {w : World} {ops : Array Oper} {rest : List Oper} {o : Oper} {a : Act} {Q : Exit → Act → World → Prop} (hgd : o.guard = none) (s x : Operand) (t u : TypeId)
    (ho : o.op = .call { callee := .builtin .append, args := #[s, x], argTypes := #[t, u] })
    (E E' : TypeId) (ht : P.underlying t = some (.slice E)) (hu : P.underlying u = some (.slice E')) (hE : StrElem P E) (B : Nat) (v : Value) (l ys : List ByteArray) (b m c : Nat) (hs : a.eval s = v) (hx : a.eval x = .slice (some ⟨b, 0, none⟩) m c) (hm : m = ys.length)
    (hy : ∀ (j : Nat) y, ys[j]? = some y → w.cell? ⟨b, 0 + j, none⟩ = some (.string y))
    (hown : OwnS E B w v l) (hlen : l.length + ys.length < 1000000) (hB : B ≤ w.heap.size)
    (h : ∀ v' w', OwnS E B w' v' (l ++ ys) → w.grownBy w' v.ownBlock → (v'.ownBlock = v.ownBlock ∨ v'.ownBlock = some w.heap.size) → wpList P ops Q rest (a.put o.dst v') w') : wpList P ops Q (o :: rest) a w := by
  obtain ⟨i, hi, hz, h1, h8⟩ := hE.get
  subst hm
  have hnews : ∀ j u, (ys.map Value.string)[j]? = some u → w.cell? ((⟨b, 0, none⟩ : Addr).add j) = some u := by
    intro j u hj
    rw [List.getElem?_map] at hj
    cases hq : ys[j]? with
    | none => rw [hq] at hj; cases hj
    | some y =>
      rw [hq] at hj
      cases hj
      have := hy j y hq
      have e : (⟨b, 0, none⟩ : Addr).add j = ⟨b, 0 + j, none⟩ := by
        unfold Addr.add
        by_cases hj0 : j = 0
        · subst hj0; simp
        · simp [hj0]
      rw [e]; exact this
  have hone : ∀ u ∈ ys.map Value.string, u.oneCell' = true := by
    intro u hu
    obtain ⟨y, _, rfl⟩ := List.mem_map.1 hu
    rfl
  obtain ⟨v', w', hr, h2, h3, _, h5⟩ := run_append_own_at (P := P) w B t o.type E i (.string ByteArray.empty) 1 16 ht hi hz h1 h8 rfl (by decide) v l.length (l.map Value.string) hown ⟨b, 0, none⟩ ys.length c (ys.map Value.string) (by simp) hnews hone (by unfold maxLen; omega) (by omega) hB
  refine wpList_plain hgd fun K hK => ?_
  unfold Oper.wp execOp
  simp only [ho, resolve, invoke, builtin, Sem.run_bind, Sem.run_pure, Result.andThen_ok, List.map_toArray, List.map_cons, List.map_nil, hs, hx, run_append_two ht hu, hr]
  exact hK _ _ (h v' w' (by simpa [OwnS] using h2) h3 h5)
end Go.G5
namespace Go.Proofs.YtipejodijbjpcaaGreatDoor
open Go.RowKit Go.G5

/-- the line in block bo is these parts; they lie behind bo -/
def Line (bo : Nat) (w : World) (xs : List ByteArray) : Prop := ∃ v, Blk w bo 95 #[v] ∧ OwnS 9 (bo + 1) w v xs
theorem Line.keep {bo : Nat} {w w' : World} {xs : List ByteArray} (h : Line bo w xs) (hb : Below w.heap.size w w') : Line bo w' xs := by
  obtain ⟨v, k, o⟩ := h
  exact ⟨v, k.keep hb, o.keep hb⟩
theorem Line.lt {bo : Nat} {w : World} {xs : List ByteArray} (h : Line bo w xs) : bo < w.heap.size := by
  obtain ⟨v, k, o⟩ := h
  exact k.lt
theorem Line.new (w : World) : Line w.heap.size (w.alloc (.cells #[.slice none 0 0] 95)) [] := ⟨_, Blk.new _ _ _, OwnS.nil _ _ _⟩
theorem blk_under {bo g : Nat} {w w' : World} {t : TypeId} {cs : Array Value} (h : Blk w g t cs) (hb : Below bo w w') (hg : g < bo) : Blk w' g t cs := (hb.block g hg).trans h
theorem OwnS.growIn {w w' : World} {P : Nat → Prop} {E : TypeId} {B : Nat} {v : Value} {l : List ByteArray} (h : OwnS E B w v l) (hg : GrownIn w w' P) (hn : ∀ k, v.ownBlock = some k → ¬ P k) : OwnS E B w' v l := by
  obtain ⟨h0, h1⟩ := h
  refine ⟨h0, ?_⟩
  rcases h1 with h1 | ⟨g, cap, cur, rfl, hBg, hgg, r⟩
  · exact .inl h1
  · exact .inr ⟨g, cap, cur, rfl, hBg, by rw [hg.block g (by have := (Array.getElem?_eq_some_iff.1 hgg).1; omega) (hn g rfl)]; exact hgg, r⟩

set_option maxHeartbeats 1000000 in
set_option maxRecDepth 100000 in
theorem lineAdd_v (bo : Nat) (v : Value) (xs ys : List ByteArray) (b m c : Nat) (w : World) (K : Blk w bo 95 #[v]) (ho : OwnS 9 (bo + 1) w v xs) (hm : m = ys.length)
    (hy : ∀ (j : Nat) y, ys[j]? = some y → w.cell? ⟨b, 0 + j, none⟩ = some (.string y)) (hlen : xs.length + ys.length < 1000000) :
    Calls Tryz.prog 92 #[.pointer (some ⟨bo, 0, none⟩), .slice (some ⟨b, 0, none⟩) m c] w fun e w' => e = .returned (.tuple #[]) ∧ ∃ v', Blk w' bo 95 #[v'] ∧ OwnS 9 (bo + 1) w' v' (xs ++ ys) ∧
      (∀ k, v'.ownBlock = some k → v.ownBlock = some k ∨ w.heap.size ≤ k) ∧ GrownIn w w' (fun k => k = bo ∨ v.ownBlock = some k) := by
  obtain ⟨a, n, cp, rfl⟩ := ho.shape3
  have zo := K.lt
  have hlt := ho.lt
  have G := K.cell
  have F := K.frozen
  go_enter Tryz.func92, Tryz.ntmps92
  go_wp2_with (at_builtin; refine wpList_appendT2 rfl _ _ _ _ rfl 9 9 Tryz.underlying95 Tryz.underlying94 strElem (bo + 1) (.slice a n cp) xs ys b m c rfl rfl hm hy ho hlen (by omega) ?_; intro v7 w7 o7 g7 h7; obtain ⟨p7, i7, q7, rfl⟩ := o7.shape3; have K7 := K.grow g7 (by intro e; have := (hlt _ e).1; omega); have G7 := K7.cell; have F7 := K7.frozen)
  refine post_named ?_
  intro Wf hWf
  have KF : Blk Wf bo 95 #[.slice p7 i7 q7] := by
    rw [hWf]
    have := K7.set 0 (.slice p7 i7 q7)
    simpa using this
  have gF : w7.grownBy Wf (some bo) := by rw [hWf]; exact grow_set (World.grownBy.refl _ _) 0 _
  have lt7 := o7.lt
  have oF : OwnS 9 (bo + 1) Wf (.slice p7 i7 q7) (xs ++ ys) := o7.grown gF (by
    by_cases h : (Value.slice p7 i7 q7).ownBlock = some bo
    · have := (lt7 _ h).1; omega
    · exact .inr h)
  have hG : GrownIn w Wf (fun k => k = bo ∨ (Value.slice a n cp).ownBlock = some k) := (GrownIn.of_row g7 (fun k hk => .inr hk)).trans (GrownIn.of_row gF (fun k hk => .inl (Option.some.inj hk).symm))
  clear hWf G7 F7 G F
  exact bodyPost_end (v := .tuple #[]) (results_none rfl _ _ _) rfl ⟨rfl, _, KF, oF, fun k hk => by
    rcases h7 with h | h
    · exact .inl (h ▸ hk)
    · rw [h] at hk; exact .inr (by have := Option.some.inj hk; omega), hG⟩
theorem line_post {bo : Nat} {v : Value} {xs ys : List ByteArray} {w w' : World} (K : Blk w bo 95 #[v]) (ho : OwnS 9 (bo + 1) w v xs)
    (h : ∃ v', Blk w' bo 95 #[v'] ∧ OwnS 9 (bo + 1) w' v' (xs ++ ys) ∧ (∀ k, v'.ownBlock = some k → v.ownBlock = some k ∨ w.heap.size ≤ k) ∧ GrownIn w w' (fun k => k = bo ∨ v.ownBlock = some k)) : Line bo w' (xs ++ ys) ∧ Below bo w w' := by
  obtain ⟨v', k, o, _, g⟩ := h
  have zo := K.lt
  exact ⟨⟨v', k, o⟩, Below.growIn (Below.refl bo w) g (by omega) (by
    rintro q (h | h)
    · omega
    · have := (ho.lt q h).1; omega)⟩
/-- parts are added -/
theorem lineAdd_any (bo : Nat) (xs ys : List ByteArray) (b m c : Nat) (w : World) (L : Line bo w xs) (hm : m = ys.length)
    (hy : ∀ (j : Nat) y, ys[j]? = some y → w.cell? ⟨b, 0 + j, none⟩ = some (.string y)) (hlen : xs.length + ys.length < 1000000) :
    Calls Tryz.prog 92 #[.pointer (some ⟨bo, 0, none⟩), .slice (some ⟨b, 0, none⟩) m c] w fun e w' => e = .returned (.tuple #[]) ∧ Line bo w' (xs ++ ys) ∧ Below bo w w' := by
  obtain ⟨v, K, ho⟩ := L
  exact (lineAdd_v bo v xs ys b m c w K ho hm hy hlen).mono fun e w' ⟨he, h⟩ => ⟨he, line_post K ho h⟩
theorem cells_two {w : World} {b : Nat} {x y : ByteArray} (h0 : w.cell? ⟨b, 0, none⟩ = some (.string x)) (h1 : w.cell? ⟨b, 1, none⟩ = some (.string y)) : ∀ (j : Nat) z, [x, y][j]? = some z → w.cell? ⟨b, 0 + j, none⟩ = some (.string z) := by
  intro j z hz
  match j, hz with
  | 0, hz => cases hz; exact h0
  | 1, hz => cases hz; exact h1
theorem cells_one {w : World} {b : Nat} {x : ByteArray} (h0 : w.cell? ⟨b, 0, none⟩ = some (.string x)) : ∀ (j : Nat) z, [x][j]? = some z → w.cell? ⟨b, 0 + j, none⟩ = some (.string z) := by
  intro j z hz
  match j, hz with
  | 0, hz => cases hz; exact h0
theorem below_under {B B' : Nat} {w w1 w2 : World} (h : Below B' w w1) (k : Below B w1 w2) (hB : B ≤ B') : Below B w w2 := (h.mono hB).trans k

set_option maxHeartbeats 1000000 in
set_option maxRecDepth 100000 in
theorem lineNum_any (bo : Nat) (xs : List ByteArray) (wd : ByteArray) (n : Int) (hn : InR n) (w : World) (L : Line bo w xs) (hp : Pow w) (hlen : xs.length < 1000) :
    Calls Tryz.prog 93 #[.pointer (some ⟨bo, 0, none⟩), .string wd, .int .i64 n] w fun e w' => e = .returned (.tuple #[]) ∧ Line bo w' (xs ++ [wd, itoaB n]) ∧ Below bo w w' := by
  have zo := L.lt
  go_enter Tryz.func93, Tryz.ntmps93
  go_wp2_with fail
  refine (fmtI_any n hn w hp).mono ?_
  rintro e w1 ⟨rfl, b1⟩
  have L1 := L.keep b1
  go_wp2_with fail
  refine (lineAdd_any bo xs [wd, itoaB n] w1.heap.size 2 2 _ (L1.keep (bl1 _ _)) rfl (cells_two (cell_new _ _ _ _ _ rfl) (cell_new _ _ _ _ _ rfl)) (by simp; omega)).mono ?_
  rintro e w2 ⟨rfl, L2, b2⟩
  have z1 := b1.size
  go_wp2
  exact bodyPost_end (v := .tuple #[]) (results_none rfl _ _ _) rfl ⟨rfl, L2, below_under b1 (below_under (bl1 w1 _) b2 (by omega)) (by omega)⟩
set_option maxHeartbeats 1000000 in
set_option maxRecDepth 100000 in
theorem lineList_any (bo : Nat) (xs : List ByteArray) (wd : ByteArray) (lv : Value) (l : List Int) (w : World) (hv : Ints w lv l) (hl : l.length ≤ 1000) (L : Line bo w xs) (hp : Pow w) (hlen : xs.length < 1000) :
    Calls Tryz.prog 95 #[.pointer (some ⟨bo, 0, none⟩), .string wd, lv] w fun e w' => e = .returned (.tuple #[]) ∧ Line bo w' (xs ++ [wd, numB l]) ∧ Below bo w w' := by
  have zo := L.lt
  have hv0 := hv
  obtain ⟨a, c, rfl⟩ := hv.shape
  by_cases h0 : l = []
  · have hx : numB l = noneB := by unfold numB; rw [if_pos h0]
    have HX := Lib.hid hx
    have hz : ¬ (0 : Int) < (l.length : Int) := by subst h0; simp
    clear hx h0
    go_enter Tryz.func95, Tryz.ntmps95
    go_wp2_with fail
    refine (lineAdd_any bo xs [wd, noneB] w.heap.size 2 2 _ (L.keep (bl1 _ _)) rfl (cells_two (cell_new _ _ _ _ _ rfl) (cell_new _ _ _ _ _ rfl)) (by simp; omega)).mono ?_
    rintro e w2 ⟨rfl, L2, b2⟩
    go_wp2
    exact bodyPost_end (v := .tuple #[]) (results_none rfl _ _ _) rfl ⟨rfl, by rw [HX.out]; exact L2, below_under (bl1 w _) b2 (by omega)⟩
  · have hx : numB l = joinB comma (l.map itoaB) := by unfold numB; rw [if_neg h0]
    have HX := Lib.hid hx
    have hz : (0 : Int) < (l.length : Int) := by
      have : l.length ≠ 0 := fun e => h0 (List.eq_nil_of_length_eq_zero e)
      omega
    clear hx h0
    go_enter Tryz.func95, Tryz.ntmps95
    go_wp2_with fail
    refine (joinIntsI_any l _ w hv0 hl hp).mono ?_
    rintro e w1 ⟨rfl, b1⟩
    rw [← HX.out]
    have L1 := L.keep b1
    have z1 := b1.size
    go_wp2_with fail
    refine (lineAdd_any bo xs [wd, numB l] w1.heap.size 2 2 _ (L1.keep (bl1 _ _)) rfl (cells_two (cell_new _ _ _ _ _ rfl) (cell_new _ _ _ _ _ rfl)) (by simp; omega)).mono ?_
    rintro e w2 ⟨rfl, L2, b2⟩
    go_wp2
    exact bodyPost_end (v := .tuple #[]) (results_none rfl _ _ _) rfl ⟨rfl, L2, below_under b1 (below_under (bl1 w1 _) b2 (by omega)) (by omega)⟩
/-- a word that may be there -/
def yes (b : Bool) (x : ByteArray) : List ByteArray := if b then [x] else []
set_option maxHeartbeats 1000000 in
set_option maxRecDepth 100000 in
theorem lineWord_any (bo : Nat) (xs : List ByteArray) (wd : ByteArray) (h : Bool) (w : World) (L : Line bo w xs) (hlen : xs.length < 1000) :
    Calls Tryz.prog 99 #[.pointer (some ⟨bo, 0, none⟩), .string wd, .bool h] w fun e w' => e = .returned (.tuple #[]) ∧ Line bo w' (xs ++ yes h wd) ∧ Below bo w w' := by
  have zo := L.lt
  cases h with
  | false =>
    go_enter Tryz.func99, Tryz.ntmps99
    go_wp2
    exact bodyPost_end (v := .tuple #[]) (results_none rfl _ _ _) rfl ⟨rfl, by show Line bo w (xs ++ []); rw [List.append_nil]; exact L, Below.refl _ _⟩
  | true =>
    go_enter Tryz.func99, Tryz.ntmps99
    go_wp2_with fail
    refine (lineAdd_any bo xs [wd] w.heap.size 1 1 _ (L.keep (bl1 _ _)) rfl (cells_one (cell_new _ _ _ _ _ rfl)) (by simp; omega)).mono ?_
    rintro e w2 ⟨rfl, L2, b2⟩
    go_wp2
    exact bodyPost_end (v := .tuple #[]) (results_none rfl _ _ _) rfl ⟨rfl, L2, below_under (bl1 w _) b2 (by omega)⟩
def spaceB : ByteArray := ⟨#[32]⟩
set_option maxHeartbeats 1000000 in
theorem lineText_any (B : Nat) (v : Value) (xs : List ByteArray) (w : World) (ho : OwnS 9 B w v xs) (hlen : (joinB spaceB xs).size ≤ 100000000) (hn : xs.length ≤ 1000000) :
    Calls Tryz.prog 106 #[v] w fun e w' => e = .returned (.string (joinB spaceB xs)) ∧ Below w.heap.size w w' := by
  obtain ⟨a, n, c, rfl⟩ := ho.shape3
  have HJ := Lib.hid (join_own B w (.slice a n c) xs spaceB ho hlen hn)
  go_enter Tryz.func106, Tryz.ntmps106
  go_wp2_with fail
  refine HJ.out.mono ?_
  rintro e w1 ⟨rfl, b1⟩
  go_wp2
  go_ret
  exact ⟨rfl, b1⟩
/-- the line, apart from a value's block -/
def LineU (bo : Nat) (u : Value) (w : World) (xs : List ByteArray) : Prop := ∃ v, Blk w bo 95 #[v] ∧ OwnS 9 (bo + 1) w v xs ∧ ∀ k, v.ownBlock = some k → u.ownBlock ≠ some k
theorem LineU.line {bo : Nat} {u : Value} {w : World} {xs : List ByteArray} (h : LineU bo u w xs) : Line bo w xs := by
  obtain ⟨v, k, o, _⟩ := h
  exact ⟨v, k, o⟩
theorem LineU.keep {bo : Nat} {u : Value} {w w' : World} {xs : List ByteArray} (h : LineU bo u w xs) (hb : Below w.heap.size w w') : LineU bo u w' xs := by
  obtain ⟨v, k, o, a⟩ := h
  exact ⟨v, k.keep hb, o.keep hb, a⟩
theorem Line.far {bo : Nat} {u : Value} {w w' : World} {xs : List ByteArray} (h : Line bo w xs) (hb : Below w.heap.size w w') (hu : ∀ k, u.ownBlock = some k → w.heap.size ≤ k) : LineU bo u w' xs := by
  obtain ⟨v, k, o⟩ := h
  exact ⟨v, k.keep hb, o.keep hb, fun q hq he => by have := (o.lt q hq).2; have := hu q he; omega⟩
theorem lineAdd_u (bo : Nat) (u : Value) (xs ys : List ByteArray) (b m c : Nat) (w : World) (L : LineU bo u w xs) (hu : ∀ k, u.ownBlock = some k → bo < k ∧ k < w.heap.size) (hm : m = ys.length)
    (hy : ∀ (j : Nat) y, ys[j]? = some y → w.cell? ⟨b, 0 + j, none⟩ = some (.string y)) (hlen : xs.length + ys.length < 1000000) :
    Calls Tryz.prog 92 #[.pointer (some ⟨bo, 0, none⟩), .slice (some ⟨b, 0, none⟩) m c] w fun e w' => e = .returned (.tuple #[]) ∧ LineU bo u w' (xs ++ ys) ∧ Below bo w w' ∧ ∀ k, u.ownBlock = some k → w'.heap[k]? = w.heap[k]? := by
  obtain ⟨v, K, ho, ha⟩ := L
  refine (lineAdd_v bo v xs ys b m c w K ho hm hy hlen).mono fun e w' ⟨he, v', k, o, near, g⟩ => ⟨he, ⟨v', k, o, fun q hq hqu => ?_⟩, (line_post K ho ⟨v', k, o, near, g⟩).2, fun q hq => ?_⟩
  · rcases near q hq with h | h
    · exact ha q h hqu
    · have := (hu q hqu).2; omega
  · refine g.block q (hu q hq).2 ?_
    rintro (h | h)
    · have := (hu q hq).1; omega
    · exact ha q h hq
set_option maxHeartbeats 1000000 in
set_option maxRecDepth 100000 in
theorem lineNum_u (bo : Nat) (u : Value) (xs : List ByteArray) (wd : ByteArray) (n : Int) (hn : InR n) (w : World) (L : LineU bo u w xs) (hu : ∀ k, u.ownBlock = some k → bo < k ∧ k < w.heap.size) (hp : Pow w) (hlen : xs.length < 1000) :
    Calls Tryz.prog 93 #[.pointer (some ⟨bo, 0, none⟩), .string wd, .int .i64 n] w fun e w' => e = .returned (.tuple #[]) ∧ LineU bo u w' (xs ++ [wd, itoaB n]) ∧ Below bo w w' ∧ ∀ k, u.ownBlock = some k → w'.heap[k]? = w.heap[k]? := by
  have zo := L.line.lt
  have HU := Lib.hid hu
  clear hu
  go_enter Tryz.func93, Tryz.ntmps93
  go_wp2_with fail
  refine (fmtI_any n hn w hp).mono ?_
  rintro e w1 ⟨rfl, b1⟩
  have L1 := L.keep b1
  have z1 := b1.size
  go_wp2_with fail
  refine (lineAdd_u bo u xs [wd, itoaB n] w1.heap.size 2 2 _ (L1.keep (bl1 _ _)) (fun k hk => ⟨(HU.out k hk).1, by have := (HU.out k hk).2; simp; omega⟩) rfl (cells_two (cell_new _ _ _ _ _ rfl) (cell_new _ _ _ _ _ rfl)) (by simp; omega)).mono ?_
  rintro e w2 ⟨rfl, L2, b2, k2⟩
  go_wp2
  refine bodyPost_end (v := .tuple #[]) (results_none rfl _ _ _) rfl ⟨rfl, L2, below_under b1 (below_under (bl1 w1 _) b2 (by omega)) (by omega), fun k hk => ?_⟩
  have h1 := (HU.out k hk).2
  rw [k2 k hk, (bl1 w1 _).block k (by omega), b1.block k h1]
theorem ints_stay {w w' : World} {v : Value} {l : List Int} (h : Ints w v l) (hs : w.heap.size ≤ w'.heap.size) (hq : ∀ k, v.ownBlock = some k → w'.heap[k]? = w.heap[k]?) : Ints w' v l := by
  obtain ⟨a, c, rfl, h1, h2, h3, h4⟩ := h
  refine ⟨a, c, rfl, h1, h2, h3, ?_⟩
  rcases h4 with h4 | ⟨b, off, rfl, hb, hc⟩
  · exact .inl h4
  · refine .inr ⟨b, off, rfl, Nat.lt_of_lt_of_le hb hs, fun k hk => ?_⟩
    have h5 := hc k hk
    have e := hq b rfl
    unfold World.cell? at h5 ⊢
    simp only at h5 ⊢
    rw [e]; exact h5
end Go.Proofs.YtipejodijbjpcaaGreatDoor
end
