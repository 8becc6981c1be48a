/- Helpers of the laws: big, sameInts; bytes that are read. -/
import Derived.Test.YtmfenalnmpndmaaDraw
import Derived.Test.YtmfenalnmpndmaaRead
import Derived.Test.YtmfenalnmpndmaaEq
namespace Go.Proofs.Ytmfenalnmpndmaa
open Go.ChangeShapes Go.WideShapes Go.ChangeAt Go.RowKit Go.G5
set_option maxRecDepth 100000

theorem cells_u8 : Try.prog.cellsOf 5 = 1 := by kernel_rfl
theorem u8_of_wf {n : Int} (h : (Lit.int .u8 n).wf = true) : 0 ≤ n ∧ n < 256 := by
  simp only [Lit.wf, Bool.and_eq_true, decide_eq_true_eq] at h
  have h1 := h.1
  have h2 := h.2
  simp [IntKind.min, IntKind.max, IntKind.signed, IntKind.bits] at h1 h2
  exact ⟨by omega, by omega⟩
theorem rdc_bytes {H : Type} {enc : TypeId × Value → H} {w : World} {base : Nat} {spare : Nat → Bool} {held : Bool} {fuel : Nat} {c : Value} {x : DataW H × List MemPlace} (h : DataW.trod enc Try.prog w base spare held fuel 22 [c] = some x) : ∃ l, Byts w c l := by
  rcases open_ints Try.underlying22 Try.underlying5 cells_u8 h with ⟨hcs, _⟩ | ⟨a, len, cap, zs, hcs, _, hlc, hcap, hzl, _, hcell, hwf⟩
  · simp at hcs; subst hcs
    exact ⟨[], none, 0, rfl, Nat.le_refl _, Nat.zero_le _, by simp, .inl rfl⟩
  · simp at hcs; subst hcs
    have hle : len ≤ zs.length := by rw [hzl]; split <;> omega
    have hll : ((zs.take len).map Int.toNat).length = len := by simp; omega
    refine ⟨(zs.take len).map Int.toNat, some a, cap, by rw [hll], by rw [hll]; exact hlc, hcap, fun y hy => ?_, ?_⟩
    · obtain ⟨z, hz, rfl⟩ := List.mem_map.1 hy
      have := u8_of_wf (hwf z (List.mem_of_mem_take hz))
      omega
    · by_cases h0 : len = 0
      · left; subst h0; simp
      · right
        have hc0 := hcell 0 (by omega)
        have hs := spot_of_cell hc0
        have hb := lt_of_cell hc0
        simp [Addr.add] at hs hb
        refine ⟨a.block, a.off, by cases a; simp_all, hb, fun k hk => ?_⟩
        rw [hll] at hk
        have := hcell k (by omega)
        have e : (a.add k) = ⟨a.block, a.off + k, none⟩ := by
          unfold Addr.add
          by_cases hk0 : k = 0
          · subst hk0; cases a; simp_all
          · simp [hk0]
        rw [e] at this
        rw [this]
        have hz := u8_of_wf (hwf zs[k] (List.getElem_mem _))
        have hg : zs.getD k 0 = zs[k] := by simp [List.getD_eq_getElem?_getD, List.getElem?_eq_getElem (show k < zs.length by omega)]
        have hg2 : ((zs.take len).map Int.toNat)[k] = zs[k].toNat := by simp
        rw [hg, hg2, show ((zs[k].toNat : Nat) : Int) = zs[k] by omega]
theorem rd_bytes {H : Type} {enc : TypeId × Value → H} {W : World} {base : Nat} {v : Value} {d : DataW H} {p : List MemPlace} (hv : Value.okWide Try.prog W .any base 22 v) (h : DataW.Trod enc Try.prog W 0 (fun _ => true) true 22 v d p) : ∃ l, Byts W v l := by
  obtain ⟨a, n, c, rfl⟩ := okWide_slice Try.underlying22 hv
  obtain ⟨fuel, hf⟩ := h
  exact rdc_bytes hf

theorem big_any (w : World) (v : Value) (l : List Nat) (hv : Byts w v l) :
    Calls Try.prog 6 #[v] w fun e w' => e = .returned (.bool (decide ((1048576 : Int) < l.length))) ∧ w = w' := by
  obtain ⟨a, c, rfl, _⟩ := hv
  go_enter Try.func6, Try.ntmps6
  go_wp2
  go_ret
  exact ⟨rfl, rfl⟩
set_option maxHeartbeats 1000000 in
theorem sameInts_any (v v' : Value) (l l' : List Int) (w : World) (hv : Ints w v l) (hv' : Ints w v' l') :
    Calls Try.prog 9 #[v, v'] w fun e w' => e = .returned (.bool (decide (l = l'))) ∧ Below w.heap.size w w' := by
  obtain ⟨a, b, off, c, rfl, hlen, hix, hc, hb⟩ := hv.view Try.prog 24 3 Try.underlying24 intElem
  obtain ⟨a', b', off', c', rfl, hlen', hix', hc', hb'⟩ := hv'.view Try.prog 24 3 Try.underlying24 intElem
  by_cases hll : (l.length : Int) = (l'.length : Int)
  · have hl2 : l.length = l'.length := by omega
    have HL := Lib.hid hl2
    have hle1 : l.length ≤ l'.length := by omega
    have hle2 : l'.length ≤ l.length := by omega
    have hb1 : ((l.length : Int) != (l'.length : Int)) = false := by simp [hl2]
    clear hll hl2
    go_enter Try.func9, Try.ntmps9
    go_wp2
    go_loopw [5] (fun i wr => ∃ k : Nat, k ≤ l.length ∧ i = .int .i64 k ∧ l.take k = l'.take k ∧ Below w.heap.size w wr) (fun i _ => l.length - (intOf i).toNat)
    case atStart => exact ⟨0, Nat.zero_le _, rfl, by simp, Below.refl _ _⟩
    case round =>
      obtain ⟨k, hk, rfl, ht, B⟩ := hrel
      have HT := Lib.hid ht
      clear ht
      by_cases hlt : k < l.length
      · have hlt2 : (k : Int) < (l'.length : Int) := by omega
        have hlt3 : (k : Int) < (l.length : Int) := by omega
        have ck := cells_below hc hb B (Nat.le_refl _) k hlt
        have ck' := cells_below hc' hb' B (Nat.le_refl _) k (by omega)
        have ik := fun W => hix W k hlt
        have ik' := fun W => hix' W k (by omega)
        have e1 : l.take (k + 1) = l.take k ++ [l[k]] := List.take_succ_eq_append_getElem hlt
        have e2 : l'.take (k + 1) = l'.take k ++ [l'[k]'(by omega)] := List.take_succ_eq_append_getElem (by omega)
        have hne : l[k] ≠ l'[k]'(by omega) → l ≠ l' := fun h e => by subst e; exact h rfl
        obtain ⟨x, hx⟩ : ∃ x, x = l[k] := ⟨_, rfl⟩
        obtain ⟨y, hy⟩ : ∃ y, y = l'[k]'(by omega) := ⟨_, rfl⟩
        rw [← hx] at ck e1 hne
        rw [← hy] at ck' e2 hne
        have H := Lib.hid (And.intro e1 (And.intro e2 hne))
        clear e1 e2 hne hx hy
        by_cases hxy : x = y
        · have ht : (x != y) = false := by simp [hxy]
          have HQ := Lib.hid hxy
          clear hxy
          go_wp2
          go_quiet (fail)
          go_wp2
          go_roundw
          case rel => exact ⟨k + 1, by omega, by go_num, by rw [H.out.1, H.out.2.1, HT.out, HQ.out], B.drewN' _⟩
          case measure => simp [intOf]; omega
        · have ht : (x != y) = true := by simp [hxy]
          have HQ := Lib.hid hxy
          clear hxy
          go_wp2
          go_quiet (fail)
          go_wp2
          go_ret
          exact ⟨ret_bool (decide_eq_false (H.out.2.2 HQ.out)).symm, B.drewN' _⟩
      · have hlt3 : ¬ (k : Int) < (l'.length : Int) := by omega
        have hlt4 : ¬ (k : Int) < (l.length : Int) := by omega
        have he : l = l' := by
          have := HT.out
          rw [List.take_of_length_le (by omega), List.take_of_length_le (by omega)] at this
          exact this
        have HE := Lib.hid he
        clear he
        go_wp2
        go_ret
        exact ⟨ret_bool (decide_eq_true HE.out).symm, B⟩
  · have hne : l ≠ l' := fun e => by subst e; exact hll rfl
    have hb1 : ((l.length : Int) != (l'.length : Int)) = true := by simp; omega
    clear hll
    have HN := Lib.hid hne
    clear hne
    go_enter Try.func9, Try.ntmps9
    go_wp2
    go_ret
    exact ⟨ret_bool (decide_eq_false HN.out).symm, Below.refl _ _⟩
theorem sameInts_true (v v' : Value) (l : List Int) (w : World) (hv : Ints w v l) (hv' : Ints w v' l) :
    Calls Try.prog 9 #[v, v'] w fun e w' => e = .returned (.bool true) ∧ Below w.heap.size w w' :=
  (sameInts_any v v' l l w hv hv').mono (by rintro e w' ⟨rfl, hb⟩; exact ⟨by rw [decide_eq_true rfl], hb⟩)
end Go.Proofs.Ytmfenalnmpndmaa
