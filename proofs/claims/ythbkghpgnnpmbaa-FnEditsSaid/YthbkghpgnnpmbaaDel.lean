/- slices.DeleteFunc with a function that looks through one pointer. -/
import Derived.Test.YthbkghpgnnpmbaaMin
import Derived.Test.YthbkghpgnnpmbaaOwnW
import Derived.Test.YthbkghpgnnpmbaaMarkK
import Derived.Lib.SliceRun
namespace Go.Proofs.Ythbkghpgnnpmbaa
open Go.RowKit Go.G5

def keepL (P : Int → Bool) (l : List Int) : List Int := l.filter fun x => !P x
theorem keepL_none (P : Int → Bool) (l : List Int) (h : l.any P = false) : keepL P l = l := by
  unfold keepL
  rw [List.filter_eq_self]
  intro a ha
  have := List.any_eq_false.1 h a ha
  simpa using this
theorem keepL_len (P : Int → Bool) (l : List Int) : (keepL P l).length ≤ l.length := List.length_filter_le _ _
theorem keepL_snoc (P : Int → Bool) (l : List Int) (b : Nat) (hb : b < l.length) : keepL P (l.take (b + 1)) = keepL P (l.take b) ++ (if P l[b] then [] else [l[b]]) := by
  unfold keepL
  rw [List.take_succ_eq_append_getElem hb, List.filter_append]
  cases h : P l[b] <;> simp [h]
theorem del_start (P : Int → Bool) (l : List Int) (k : Nat) (hk : k < l.length) (h : (l.take k).any P = false) (hP : P l[k] = true) : l.take k = keepL P (l.take (k + 1)) := by
  rw [keepL_snoc P l k hk, keepL_none P _ h, hP]; simp
theorem del_keep (P : Int → Bool) (l m : List Int) (a b : Nat) (hab : a < b) (hb : b < l.length) (hm : m.length = l.length) (h1 : m.take a = keepL P (l.take b)) (h2 : m.drop b = l.drop b) (hP : P l[b] = false) :
    (m.set a l[b]).take (a + 1) = keepL P (l.take (b + 1)) ∧ (m.set a l[b]).drop (b + 1) = l.drop (b + 1) := by
  constructor
  · rw [keepL_snoc P l b hb, hP, ← h1, List.take_succ_eq_append_getElem (by rw [List.length_set]; omega), List.take_set_of_le (Nat.le_refl a), List.getElem_set_self]
    simp
  · rw [List.drop_set_of_lt (by omega), Nat.add_comm b 1, Nat.add_comm 1 b, ← List.drop_drop, ← List.drop_drop, h2]
theorem del_skip (P : Int → Bool) (l m : List Int) (a b : Nat) (hb : b < l.length) (h1 : m.take a = keepL P (l.take b)) (h2 : m.drop b = l.drop b) (hP : P l[b] = true) :
    m.take a = keepL P (l.take (b + 1)) ∧ m.drop (b + 1) = l.drop (b + 1) := by
  constructor
  · rw [keepL_snoc P l b hb, hP, h1]; simp
  · rw [← List.drop_drop, ← List.drop_drop, h2]
theorem del_at (l m : List Int) (b : Nat) (hb : b < l.length) (hm : m.length = l.length) (h2 : m.drop b = l.drop b) : m[b]'(by omega) = l[b] := by
  have h := congrArg (fun z => z[0]?) h2
  simp only [List.getElem?_drop, Nat.add_zero] at h
  rw [List.getElem?_eq_getElem (by omega), List.getElem?_eq_getElem hb] at h
  exact Option.some.inj h

theorem OwnW.cleared {E : TypeId} {B : Nat} {g cap n : Nat} {m : List Int} (k : Nat) (hk : k ≤ m.length) : ∀ (vs : List Value) (o : Nat) (w : World), k ≤ o → OwnW E B w (.slice (some ⟨g, 0, none⟩) n cap) m → n = m.length →
    OwnW E B (w.setCells g o vs) (.slice (some ⟨g, 0, none⟩) k cap) (m.take k) ∧ w.grownBy (w.setCells g o vs) (some g) := by
  have base : ∀ (w : World), OwnW E B w (.slice (some ⟨g, 0, none⟩) k cap) (m.take k) → ∀ (vs : List Value) (o : Nat), k ≤ o → OwnW E B (w.setCells g o vs) (.slice (some ⟨g, 0, none⟩) k cap) (m.take k) ∧ w.grownBy (w.setCells g o vs) (some g) := by
    intro w h vs
    induction vs generalizing w with
    | nil => intro o _; exact ⟨h, ⟨rfl, rfl, rfl, Nat.le_refl _, fun _ _ _ => rfl⟩⟩
    | cons v r ih =>
      intro o ho
      have hlen : (m.take k).length = k := by simp; omega
      have h1 : OwnW E B (w.setCell ⟨g, o, none⟩ v) (.slice (some ⟨g, 0, none⟩) k cap) (m.take k) := by
        refine ⟨h.1, ?_⟩
        right
        rcases h.2 with ⟨e, _⟩ | ⟨g', cap', cur, e, hB, hg, hlc, hcc, hm, ht⟩
        · simp at e
        · simp only [Value.slice.injEq, Option.some.injEq, Addr.mk.injEq, and_true] at e
          obtain ⟨rfl, _, rfl⟩ := e
          refine ⟨g, cap, cur.setIfInBounds o v, by rw [hlen], hB, ?_, hlc, by simpa using hcc, hm, ?_⟩
          · simp [World.setCell, Array.getElem?_modify, hg]
          · rw [Array.toList_setIfInBounds, List.take_set_of_le (by omega), ht]
      obtain ⟨q1, q2⟩ := ih _ h1 (o + 1) (by omega)
      exact ⟨q1, ⟨q2.os, q2.tape, q2.output, by show w.heap.size ≤ ((w.setCell ⟨g, o, none⟩ v).setCells g (o + 1) r).heap.size; simpa using q2.size, fun b hb hne => by
        have := q2.block b (by simpa using hb) hne
        show ((w.setCell ⟨g, o, none⟩ v).setCells g (o + 1) r).heap[b]? = _
        rw [this]; exact Below.heap_setCell w _ _ b (by intro e; exact hne (by rw [e]))⟩⟩
  intro vs o w ho h hn
  refine base w ⟨fun x hx => h.1 x (List.mem_of_mem_take hx), ?_⟩ vs o ho
  right
  have hlen : (m.take k).length = k := by simp; omega
  rcases h.2 with ⟨e, _⟩ | ⟨g', cap', cur, e, hB, hg, hlc, hcc, hm, ht⟩
  · simp at e
  · simp only [Value.slice.injEq, Option.some.injEq, Addr.mk.injEq, and_true] at e
    obtain ⟨rfl, _, rfl⟩ := e
    refine ⟨g, cap, cur, by rw [hlen], hB, hg, by omega, hcc, hm, ?_⟩
    rw [hlen]
    have := congrArg (List.take k) ht
    rw [List.take_take, Nat.min_eq_left hk, ← List.map_take] at this
    exact this

set_option maxHeartbeats 1000000 in
theorem indexFunc2_any (l : List Int) (v : Value) (w : World) (hv : Ints w v l) (c : FuncId) (he : ∀ args w, (callFunc c args).run Try.prog w = .ok (.enter c args) w) (g : Nat) (P : Int → Bool)
    (hw : ∀ (t : Int) W', t ∈ l → Below w.heap.size w W' → Calls Try.prog c #[.int .i64 t, .pointer (some ⟨g, 0, none⟩)] W' fun e w2 => e = .returned (.bool (P t)) ∧ Below W'.heap.size W' w2) :
    Calls Try.prog 124 #[v, .func (.func c) #[] #[.pointer (some ⟨g, 0, none⟩)]] w fun e w' => ((e = .returned (.int .i64 (-1)) ∧ l.any P = false) ∨ ∃ k : Nat, ∃ hk : k < l.length, e = .returned (.int .i64 k) ∧ (l.take k).any P = false ∧ P l[k] = true) ∧ Below w.heap.size w w' := by
  obtain ⟨a, b, off, cp, rfl, hlen, hix, hc, hb⟩ := hv.view Try.prog 24 3 Try.underlying24 intElem
  have HW := Lib.hid hw
  clear hw
  go_enter Try.func124, Try.ntmps124
  go_wp2_with fail
  go_loopw [8] (fun i wr => ∃ k : Nat, k ≤ l.length ∧ i = .int .i64 k ∧ (l.take k).any P = false ∧ Below w.heap.size w wr) (fun i _ => l.length - (intOf i).toNat)
  case atStart => exact ⟨0, Nat.zero_le _, rfl, by simp, Below.refl _ _⟩
  case round =>
    obtain ⟨k, hk, rfl, hall, B⟩ := hrel
    have H := Lib.hid hall
    clear hall
    by_cases hlt : k < l.length
    · have hck := cells_below hc hb B (Nat.le_refl _) k hlt
      have hcl := HW.out l[k] wr (List.getElem_mem hlt) B
      have htk : (l.take (k + 1)).any P = ((l.take k).any P || P l[k]) := by rw [List.take_succ_eq_append_getElem hlt, List.any_append]; simp
      have HTK := Lib.hid htk
      clear htk
      cases hP : P l[k] with
      | true =>
        have HH := Lib.hid hP
        rw [hP] at hcl
        clear hP
        go_wp2_with (go_at_fn c; refine hcl.mono ?_; rintro e w2 ⟨rfl, hb2⟩)
        go_ret
        exact ⟨.inr ⟨k, hlt, rfl, H.out, HH.out⟩, B.after hb2 B.size⟩
      | false =>
        have HP := Lib.hid hP
        rw [hP] at hcl
        clear hP
        go_wp2_with (go_at_fn c; refine hcl.mono ?_; rintro e w2 ⟨rfl, hb2⟩)
        go_roundw
        case rel => exact ⟨k + 1, by omega, by go_num, by rw [HTK.out, H.out, HP.out]; rfl, B.after hb2 B.size⟩
        case measure => simp [intOf]; omega
    · have hh : l.any P = false := by have := H.out; rw [List.take_of_length_le (by omega)] at this; exact this
      have HH := Lib.hid hh
      clear hh
      go_wp2
      go_ret
      exact ⟨.inl ⟨rfl, HH.out⟩, B⟩

set_option maxHeartbeats 2000000 in
theorem deleteFunc_any (B : Nat) (l : List Int) (v : Value) (w : World) (hv : OwnW 3 B w v l) (hl : l.length ≤ 1048576) (c : FuncId) (he : ∀ args w, (callFunc c args).run Try.prog w = .ok (.enter c args) w) (g : Nat) (P : Int → Bool)
    (hw : ∀ (t : Int) W', GrownIn w W' (fun k => v.ownBlock = some k) → Calls Try.prog c #[.int .i64 t, .pointer (some ⟨g, 0, none⟩)] W' fun e w2 => e = .returned (.bool (P t)) ∧ Below W'.heap.size W' w2) :
    Calls Try.prog 70 #[v, .func (.func c) #[] #[.pointer (some ⟨g, 0, none⟩)]] w fun e w' => ∃ ad n cp, e = .returned (.slice ad n cp) ∧ OwnW 3 B w' (.slice ad n cp) (keepL P l) ∧ GrownIn w w' (fun k => v.ownBlock = some k) := by
  have hcl := indexFunc2_any l v w hv.ints c he g P (fun t W' _ hb => hw t W' (GrownIn.of_below hb))
  have HW := Lib.hid hw
  clear hw
  obtain ⟨a, cp, rfl⟩ := hv.shape
  go_enter Try.func70, Try.ntmps70
  go_wp2_with fail
  refine hcl.mono ?_
  rintro e w1 ⟨h, hb1⟩
  clear hcl
  have o1 := hv.keep hb1
  have G1 : GrownIn w w1 (fun k => (Value.slice a l.length cp).ownBlock = some k) := GrownIn.of_below hb1
  rcases h with ⟨rfl, hn⟩ | ⟨k, hk, rfl, hall, hp⟩
  · have HN := Lib.hid hn
    clear hn
    go_wp2
    go_ret
    exact ⟨_, _, _, rfl, by rw [keepL_none P l HN.out]; exact o1, G1⟩
  · have hst := Lib.hid (del_start P l k hk hall hp)
    clear hall hp
    obtain ⟨g0, cap, e0, hg0, hg1⟩ : ∃ g cap, Value.slice a l.length cp = .slice (some ⟨g, 0, none⟩) l.length cap ∧ B ≤ g ∧ g < w1.heap.size := by
      rcases o1.cases with ⟨_, e⟩ | h
      · rw [e] at hk; simp at hk
      · exact h
    simp only [Value.slice.injEq, true_and] at e0
    obtain ⟨rfl, rfl⟩ := e0
    have hne : ((k : Int) == -1) = false := by simp
    have hk1 : IntKind.i64.wrap ((k : Int) + 1) = (k : Int) + 1 := IntWalk.i64_in _ ⟨by omega, by omega⟩
    have hlc : l.length ≤ cp := by
      rcases o1.2 with ⟨e, _⟩ | ⟨_, _, _, e, _, _, h, _⟩
      · simp at e
      · simp only [Value.slice.injEq] at e; rw [e.2.2]; exact h
    go_wp2_with fail
    go_loopw [5, 6] (fun i j wr => ∃ (x y : Nat) (m : List Int), x < y ∧ y ≤ l.length ∧ i = .int .i64 x ∧ j = .int .i64 y ∧ m.length = l.length ∧ m.take x = keepL P (l.take y) ∧ m.drop y = l.drop y ∧ OwnW 3 B wr (.slice (some ⟨g0, 0, none⟩) l.length cp) m ∧ GrownIn w wr (fun k => (Value.slice (some ⟨g0, 0, none⟩) l.length cp).ownBlock = some k))
      (fun _ j _ => l.length - (intOf j).toNat)
    case atStart => exact ⟨k, k + 1, l, by omega, by omega, rfl, by go_num, rfl, hst.out, rfl, o1, G1⟩
    case round =>
      obtain ⟨x, y, m, hxy, hy, rfl, rfl, hm, ht, hd, o, G⟩ := hrel
      have HT := Lib.hid ht
      have HD := Lib.hid hd
      clear ht hd
      by_cases hlt : y < l.length
      · have hcy := o.cellAt hm.symm y (by omega)
        rw [del_at l m y hlt hm HD.out] at hcy
        have hcl := HW.out l[y] wr G
        cases hP : P l[y] with
        | false =>
          have HP := Lib.hid hP
          rw [hP] at hcl
          clear hP
          obtain ⟨w2, hw2⟩ : ∃ w2 : World, w2 = wr := ⟨_, rfl⟩
          go_wp2_with (go_at_fn c; refine hcl.mono ?_; rintro e w2 ⟨rfl, hb2⟩; have o2 := o.keep hb2; have ca := o2.cellAt hm.symm x (by omega); have fa := o2.frozenAt hm.symm x)
          have hs := o2.stored hm.symm x l[y] (hv.1 _ (List.getElem_mem hlt))
          go_roundw
          case rel => exact ⟨x + 1, y + 1, m.set x l[y], by omega, by omega, by go_num, by go_num, by rw [List.length_set]; exact hm, (del_keep P l m x y hxy hlt hm HT.out HD.out HP.out).1, (del_keep P l m x y hxy hlt hm HT.out HD.out HP.out).2, hs.1, (G.trans (GrownIn.of_below hb2)).trans (GrownIn.of_row hs.2 (fun _ h => h))⟩
          case measure => simp [intOf]; omega
        | true =>
          have HP := Lib.hid hP
          rw [hP] at hcl
          clear hP
          go_wp2_with (go_at_fn c; refine hcl.mono ?_; rintro e w2 ⟨rfl, hb2⟩)
          go_roundw
          case rel => exact ⟨x, y + 1, m, by omega, by omega, by go_num, by go_num, hm, (del_skip P l m x y hlt HT.out HD.out HP.out).1, (del_skip P l m x y hlt HT.out HD.out HP.out).2, o.keep hb2, G.trans (GrownIn.of_below hb2)⟩
          case measure => simp [intOf]; omega
      · have hz : ∀ w, (zeroValue 3).run Try.prog w = .ok (.int .i64 0) w := fun _ => by kernel_rfl
        have hcr : ∀ ty, (Builtin.clear_ #[24] ty #[.slice (some ⟨g0, x, none⟩) (l.length - x) (cp - x)]).run Try.prog wr = .ok (.tuple #[]) (wr.setCells g0 x (List.replicate (l.length - x) (.int .i64 0))) :=
          fun ty => Lib.run_clear_slice wr _ _ ty _ Try.underlying24 hz rfl rfl g0 x _ _ (by omega) (fun t ht => by rw [o.cellAt hm.symm (x + t) (by omega)]; rfl) (fun t ht => o.frozenAt hm.symm (x + t))
        have hs := OwnW.cleared x (by omega) (List.replicate (l.length - x) (.int .i64 0)) x wr (Nat.le_refl _) o hm.symm
        have hxl : x ≤ l.length := by omega
        have hxc : x ≤ cp := by omega
        go_wp2
        go_ret
        refine ⟨_, _, _, rfl, ?_, G.trans (GrownIn.of_row hs.2 (fun _ h => h))⟩
        have := HT.out
        rw [List.take_of_length_le (by omega : l.length ≤ y)] at this
        rw [← this]
        exact hs.1
end Go.Proofs.Ythbkghpgnnpmbaa
