/- slices.DeleteFunc with a function that looks through one pointer. Contracts of the library at this program, laid by the kit's commands. -/
import Derived.Test.YtdagcdgbdhecgaaGreatQ31
import Derived.Lib.SliceRun
import Derived.Shelf.Sort.Plain
import Derived.Ground.Names2Prog
import Derived.Shelf.Slices.Clone
import Derived.Shelf.Slices.CompactI
import Derived.Shelf.Slices.SearchI
import Derived.Shelf.Slices.In.SortNone
import Derived.Shelf.Slices.Empties
import Derived.Test.YtdagcdgbdhecgaaGreatProg
section
namespace Go.Proofs.YtdagcdgbdhecgaaGreat
open Go.RowKit Go.G5

def keepL (P : Int → Bool) (l : List Int) : List Int := l.filter fun x => !P x
theorem keepL_none (P : Int → Bool) (l : List Int) (h : l.any P = false) : keepL P l = l := by
  unfold keepL
  rw [List.filter_eq_self]
  intro a ha
  have := List.any_eq_false.1 h a ha
  simpa using this
theorem keepL_len (P : Int → Bool) (l : List Int) : (keepL P l).length ≤ l.length := List.length_filter_le _ _
theorem keepL_snoc (P : Int → Bool) (l : List Int) (b : Nat) (hb : b < l.length) : keepL P (l.take (b + 1)) = keepL P (l.take b) ++ (if P l[b] then [] else [l[b]]) := by
  unfold keepL
  rw [List.take_succ_eq_append_getElem hb, List.filter_append]
  cases h : P l[b] <;> simp [h]
theorem del_start (P : Int → Bool) (l : List Int) (k : Nat) (hk : k < l.length) (h : (l.take k).any P = false) (hP : P l[k] = true) : l.take k = keepL P (l.take (k + 1)) := by
  rw [keepL_snoc P l k hk, keepL_none P _ h, hP]; simp
theorem del_keep (P : Int → Bool) (l m : List Int) (a b : Nat) (hab : a < b) (hb : b < l.length) (hm : m.length = l.length) (h1 : m.take a = keepL P (l.take b)) (h2 : m.drop b = l.drop b) (hP : P l[b] = false) :
    (m.set a l[b]).take (a + 1) = keepL P (l.take (b + 1)) ∧ (m.set a l[b]).drop (b + 1) = l.drop (b + 1) := by
  constructor
  · rw [keepL_snoc P l b hb, hP, ← h1, List.take_succ_eq_append_getElem (by rw [List.length_set]; omega), List.take_set_of_le (Nat.le_refl a), List.getElem_set_self]
    simp
  · rw [List.drop_set_of_lt (by omega), Nat.add_comm b 1, Nat.add_comm 1 b, ← List.drop_drop, ← List.drop_drop, h2]
theorem del_skip (P : Int → Bool) (l m : List Int) (a b : Nat) (hb : b < l.length) (h1 : m.take a = keepL P (l.take b)) (h2 : m.drop b = l.drop b) (hP : P l[b] = true) :
    m.take a = keepL P (l.take (b + 1)) ∧ m.drop (b + 1) = l.drop (b + 1) := by
  constructor
  · rw [keepL_snoc P l b hb, hP, h1]; simp
  · rw [← List.drop_drop, ← List.drop_drop, h2]
theorem del_at (l m : List Int) (b : Nat) (hb : b < l.length) (hm : m.length = l.length) (h2 : m.drop b = l.drop b) : m[b]'(by omega) = l[b] := by
  have h := congrArg (fun z => z[0]?) h2
  simp only [List.getElem?_drop, Nat.add_zero] at h
  rw [List.getElem?_eq_getElem (by omega), List.getElem?_eq_getElem hb] at h
  exact Option.some.inj h

theorem OwnW.cleared {E : TypeId} {B : Nat} {g cap n : Nat} {m : List Int} (k : Nat) (hk : k ≤ m.length) : ∀ (vs : List Value) (o : Nat) (w : World), k ≤ o → OwnW E B w (.slice (some ⟨g, 0, none⟩) n cap) m → n = m.length →
    OwnW E B (w.setCells g o vs) (.slice (some ⟨g, 0, none⟩) k cap) (m.take k) ∧ w.grownBy (w.setCells g o vs) (some g) := by
  have base : ∀ (w : World), OwnW E B w (.slice (some ⟨g, 0, none⟩) k cap) (m.take k) → ∀ (vs : List Value) (o : Nat), k ≤ o → OwnW E B (w.setCells g o vs) (.slice (some ⟨g, 0, none⟩) k cap) (m.take k) ∧ w.grownBy (w.setCells g o vs) (some g) := by
    intro w h vs
    induction vs generalizing w with
    | nil => intro o _; exact ⟨h, ⟨rfl, rfl, rfl, Nat.le_refl _, fun _ _ _ => rfl⟩⟩
    | cons v r ih =>
      intro o ho
      have hlen : (m.take k).length = k := by simp; omega
      have h1 : OwnW E B (w.setCell ⟨g, o, none⟩ v) (.slice (some ⟨g, 0, none⟩) k cap) (m.take k) := by
        refine ⟨h.1, ?_⟩
        right
        rcases h.2 with ⟨e, _⟩ | ⟨g', cap', cur, e, hB, hg, hlc, hcc, hm, ht⟩
        · simp at e
        · simp only [Value.slice.injEq, Option.some.injEq, Addr.mk.injEq, and_true] at e
          obtain ⟨rfl, _, rfl⟩ := e
          refine ⟨g, cap, cur.setIfInBounds o v, by rw [hlen], hB, ?_, hlc, by simpa using hcc, hm, ?_⟩
          · simp [World.setCell, Array.getElem?_modify, hg]
          · rw [Array.toList_setIfInBounds, List.take_set_of_le (by omega), ht]
      obtain ⟨q1, q2⟩ := ih _ h1 (o + 1) (by omega)
      exact ⟨q1, ⟨q2.os, q2.tape, q2.output, by show w.heap.size ≤ ((w.setCell ⟨g, o, none⟩ v).setCells g (o + 1) r).heap.size; simpa using q2.size, fun b hb hne => by
        have := q2.block b (by simpa using hb) hne
        show ((w.setCell ⟨g, o, none⟩ v).setCells g (o + 1) r).heap[b]? = _
        rw [this]; exact Below.heap_setCell w _ _ b (by intro e; exact hne (by rw [e]))⟩⟩
  intro vs o w ho h hn
  refine base w ⟨fun x hx => h.1 x (List.mem_of_mem_take hx), ?_⟩ vs o ho
  right
  have hlen : (m.take k).length = k := by simp; omega
  rcases h.2 with ⟨e, _⟩ | ⟨g', cap', cur, e, hB, hg, hlc, hcc, hm, ht⟩
  · simp at e
  · simp only [Value.slice.injEq, Option.some.injEq, Addr.mk.injEq, and_true] at e
    obtain ⟨rfl, _, rfl⟩ := e
    refine ⟨g, cap, cur, by rw [hlen], hB, hg, by omega, hcc, hm, ?_⟩
    rw [hlen]
    have := congrArg (List.take k) ht
    rw [List.take_take, Nat.min_eq_left hk, ← List.map_take] at this
    exact this

set_option maxHeartbeats 1000000 in
theorem indexFunc2_any (l : List Int) (v : Value) (w : World) (hv : Ints w v l) (c : FuncId) (he : ∀ args w, (callFunc c args).run Tryz.prog w = .ok (.enter c args) w) (g : Nat) (P : Int → Bool)
    (hw : ∀ (t : Int) W', t ∈ l → Below w.heap.size w W' → Calls Tryz.prog c #[.int .i64 t, .pointer (some ⟨g, 0, none⟩)] W' fun e w2 => e = .returned (.bool (P t)) ∧ Below W'.heap.size W' w2) :
    Calls Tryz.prog 79 #[v, .func (.func c) #[] #[.pointer (some ⟨g, 0, none⟩)]] w fun e w' => ((e = .returned (.int .i64 (-1)) ∧ l.any P = false) ∨ ∃ k : Nat, ∃ hk : k < l.length, e = .returned (.int .i64 k) ∧ (l.take k).any P = false ∧ P l[k] = true) ∧ Below w.heap.size w w' := by
  obtain ⟨a, b, off, cp, rfl, hlen, hix, hc, hb⟩ := hv.view Tryz.prog 30 3 Tryz.underlying30 intElem
  have HW := Lib.hid hw
  clear hw
  go_enter Tryz.func79, Tryz.ntmps79
  go_wp2_with fail
  go_loopw [8] (fun i wr => ∃ k : Nat, k ≤ l.length ∧ i = .int .i64 k ∧ (l.take k).any P = false ∧ Below w.heap.size w wr) (fun i _ => l.length - (intOf i).toNat)
  case atStart => exact ⟨0, Nat.zero_le _, rfl, by simp, Below.refl _ _⟩
  case round =>
    obtain ⟨k, hk, rfl, hall, B⟩ := hrel
    have H := Lib.hid hall
    clear hall
    by_cases hlt : k < l.length
    · have hck := cells_below hc hb B (Nat.le_refl _) k hlt
      have hcl := HW.out l[k] wr (List.getElem_mem hlt) B
      have htk : (l.take (k + 1)).any P = ((l.take k).any P || P l[k]) := by rw [List.take_succ_eq_append_getElem hlt, List.any_append]; simp
      have HTK := Lib.hid htk
      clear htk
      cases hP : P l[k] with
      | true =>
        have HH := Lib.hid hP
        rw [hP] at hcl
        clear hP
        go_wp2_with (go_at_fn c; refine hcl.mono ?_; rintro e w2 ⟨rfl, hb2⟩)
        go_ret
        exact ⟨.inr ⟨k, hlt, rfl, H.out, HH.out⟩, B.after hb2 B.size⟩
      | false =>
        have HP := Lib.hid hP
        rw [hP] at hcl
        clear hP
        go_wp2_with (go_at_fn c; refine hcl.mono ?_; rintro e w2 ⟨rfl, hb2⟩)
        go_roundw
        case rel => exact ⟨k + 1, by omega, by go_num, by rw [HTK.out, H.out, HP.out]; rfl, B.after hb2 B.size⟩
        case measure => simp [intOf]; omega
    · have hh : l.any P = false := by have := H.out; rw [List.take_of_length_le (by omega)] at this; exact this
      have HH := Lib.hid hh
      clear hh
      go_wp2
      go_ret
      exact ⟨.inl ⟨rfl, HH.out⟩, B⟩

end Go.Proofs.YtdagcdgbdhecgaaGreat
end
section
namespace Go.Proofs.YtdagcdgbdhecgaaGreat
open Go.Shelf
set_option maxRecDepth 100000
def sh_lays189_ren : Go.Shelf.Ren := ⟨fun | 189 => 91 | 125 => 99 | 257 => 98 | 128 => 110 | 129 => 111 | 294 => 102 | 295 => 103 | 296 => 104 | 297 => 105 | 298 => 106 | 299 => 107 | 216 => 94 | 300 => 108 | 301 => 109 | 328 => 112 | 329 => 113 | 330 => 114 | 331 => 115 | 332 => 116 | 215 => 100 | 343 => 117 | n => n, fun | 28 => 30 | 3 => 3 | 46 => 41 | 0 => 0 | 51 => 82 | 53 => 84 | 4 => 4 | 183 => 92 | 182 => 91 | 131 => 79 | 5 => 5 | 9 => 9 | 218 => 96 | 222 => 100 | 228 => 102 | 229 => 103 | n => n, fun | n => n⟩
theorem sh_lays189 : Go.Proofs.Lays.n189 Tryz.prog sh_lays189_ren := {
  mixed := by kernel_rfl
  f125 := Tryz.func99.trans (congrArg some (by kernel_rfl))
  f128 := Tryz.func110.trans (congrArg some (by kernel_rfl))
  f129 := Tryz.func111.trans (congrArg some (by kernel_rfl))
  f189 := Tryz.func91.trans (congrArg some (by kernel_rfl))
  f215 := Tryz.func100.trans (congrArg some (by kernel_rfl))
  f216 := Tryz.func94.trans (congrArg some (by kernel_rfl))
  f257 := Tryz.func98.trans (congrArg some (by kernel_rfl))
  f294 := Tryz.func102.trans (congrArg some (by kernel_rfl))
  f295 := Tryz.func103.trans (congrArg some (by kernel_rfl))
  f296 := Tryz.func104.trans (congrArg some (by kernel_rfl))
  f297 := Tryz.func105.trans (congrArg some (by kernel_rfl))
  f298 := Tryz.func106.trans (congrArg some (by kernel_rfl))
  f299 := Tryz.func107.trans (congrArg some (by kernel_rfl))
  f300 := Tryz.func108.trans (congrArg some (by kernel_rfl))
  f301 := Tryz.func109.trans (congrArg some (by kernel_rfl))
  f328 := Tryz.func112.trans (congrArg some (by kernel_rfl))
  f329 := Tryz.func113.trans (congrArg some (by kernel_rfl))
  f330 := Tryz.func114.trans (congrArg some (by kernel_rfl))
  f331 := Tryz.func115.trans (congrArg some (by kernel_rfl))
  f332 := Tryz.func116.trans (congrArg some (by kernel_rfl))
  f343 := Tryz.func117.trans (congrArg some (by kernel_rfl))
  t0 := Tryz.underlying0
  a0 := Tryz.isAgg0
  z0 := Tryz.sizeOf0
  v0 := Tryz.zeroValue0
  t3 := Tryz.underlying3
  a3 := Tryz.isAgg3
  z3 := Tryz.sizeOf3
  v3 := Tryz.zeroValue3
  t4 := Tryz.underlying4
  a4 := Tryz.isAgg4
  z4 := Tryz.sizeOf4
  v4 := Tryz.zeroValue4
  t5 := Tryz.underlying5
  a5 := Tryz.isAgg5
  z5 := Tryz.sizeOf5
  v5 := Tryz.zeroValue5
  t9 := Tryz.underlying9
  a9 := Tryz.isAgg9
  z9 := Tryz.sizeOf9
  v9 := Tryz.zeroValue9
  t28 := Tryz.underlying30
  a28 := Tryz.isAgg30
  z28 := Tryz.sizeOf30
  v28 := Tryz.zeroValue30
  t46 := Tryz.underlying41
  a46 := Tryz.isAgg41
  z46 := Tryz.sizeOf41
  v46 := Tryz.zeroValue41
  t51 := Tryz.underlying82
  a51 := Tryz.isAgg82
  z51 := Tryz.sizeOf82
  v51 := Tryz.zeroValue82
  t53 := Tryz.underlying84
  a53 := Tryz.isAgg84
  z53 := Tryz.sizeOf84
  v53 := Tryz.zeroValue84
  t131 := Tryz.underlying79
  a131 := Tryz.isAgg79
  z131 := Tryz.sizeOf79
  v131 := Tryz.zeroValue79
  t182 := Tryz.underlying91
  a182 := Tryz.isAgg91
  z182 := Tryz.sizeOf91
  v182 := Tryz.zeroValue91
  t183 := Tryz.underlying92
  a183 := Tryz.isAgg92
  z183 := Tryz.sizeOf92
  v183 := Tryz.zeroValue92
  t218 := Tryz.underlying96
  a218 := Tryz.isAgg96
  z218 := Tryz.sizeOf96
  v218 := Tryz.zeroValue96
  t222 := Tryz.underlying100
  a222 := Tryz.isAgg100
  z222 := Tryz.sizeOf100
  v222 := Tryz.zeroValue100
  t228 := Tryz.underlying102
  a228 := Tryz.isAgg102
  z228 := Tryz.sizeOf102
  v228 := Tryz.zeroValue102
  t229 := Tryz.underlying103
  a229 := Tryz.isAgg103
  z229 := Tryz.sizeOf103
  v229 := Tryz.zeroValue103 }
open Go.Sort Go.RowKit in
theorem sh_slices_Sort_int (blk off cap : Nat) (zs : List Int) (w : World) (hH : Holds (Value.int .i64) w blk off zs.toArray) (hblk : blk < w.heap.size) (hsz : zs.length < 4611686018427387904) :
    Calls Tryz.prog 91 #[.slice (some ⟨blk, off, none⟩) zs.length cap] w fun e w' =>
      e = .returned (.tuple #[]) ∧ ∃ n os, w' = grow (putRow (Value.int .i64) (Sort.ahead w n) blk off (zs.mergeSort fun x y => decide (x ≤ y)).toArray) os := Any.slices_Sort_int sh_lays189 blk off cap zs w hH hblk hsz
open Go.RowKit Go.Sort in
theorem sh_slices_Sort_int_none (p : Option Addr) (cap : Nat) (w : World) :
    Calls Tryz.prog 91 #[.slice p 0 cap] w fun e w' => e = .returned (.tuple #[]) ∧ w' = w := Any.slices_Sort_int_none sh_lays189 p cap w
def sh_laysNm220_ren : Go.Shelf.Ren := ⟨fun | 20 => 93 | n => n, fun | 22 => 30 | 3 => 3 | 4 => 4 | 0 => 0 | n => n, fun | n => n⟩
theorem sh_laysNm220 : Go.Proofs.Lays2.n20 Tryz.prog sh_laysNm220_ren := {
  mixed := by kernel_rfl
  f20 := Tryz.func93.trans (congrArg some (by kernel_rfl))
  t0 := Tryz.underlying0
  a0 := Tryz.isAgg0
  z0 := Tryz.sizeOf0
  v0 := Tryz.zeroValue0
  t3 := Tryz.underlying3
  a3 := Tryz.isAgg3
  z3 := Tryz.sizeOf3
  v3 := Tryz.zeroValue3
  t4 := Tryz.underlying4
  a4 := Tryz.isAgg4
  z4 := Tryz.sizeOf4
  v4 := Tryz.zeroValue4
  t22 := Tryz.underlying30
  a22 := Tryz.isAgg30
  z22 := Tryz.sizeOf30
  v22 := Tryz.zeroValue30
  i3 := by kernel_rfl }
open Go.RowKit Go.Lib Go.Sort in
theorem sh_slices_Compact_int (blk off cap : Nat) (zs : List Int) (w : World) (hH : Holds (Value.int .i64) w blk off zs.toArray) (hsz : zs.length ≤ 9223372036854775807) (hcap : zs.length ≤ cap) :
    Calls Tryz.prog 93 #[.slice (some ⟨blk, off, none⟩) zs.length cap] w fun e w' => e = .returned (.slice (some ⟨blk, off, none⟩) (Lib.compact zs).length cap) ∧ ∃ q, w' = putRow (Value.int .i64) (Sort.ahead w q) blk off (Lib.compact zs ++ List.replicate (zs.length - (Lib.compact zs).length) 0).toArray := Any.slices_Compact_int sh_laysNm220 blk off cap zs w hH hsz hcap
open Go.RowKit Go.Lib Go.Sort in
theorem sh_slices_Compact_int_empty (a : Option Addr) (cap : Nat) (w : World) :
    Calls Tryz.prog 93 #[.slice a 0 cap] w fun e w' => e = .returned (.slice a 0 cap) ∧ w' = w := Any.slices_Compact_int_empty sh_laysNm220 a cap w
end Go.Proofs.YtdagcdgbdhecgaaGreat
end
