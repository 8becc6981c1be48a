/- Draws: a cursor over the bytes that were handed. The laws' own sizes and equalities. Helpers of the laws: big, sameInts; bytes that are read. -/
import Derived.Test.YtgdkeaooipmgbaaQ04
import Derived.Deep.Light
section
namespace Go.G5
open Go Go.RowKit

/-- the slice value v reads as the bytes l in w -/
def Byts (w : World) (v : Value) (l : List Nat) : Prop :=
  ∃ a c, v = .slice a l.length c ∧ l.length ≤ c ∧ c ≤ maxLen ∧ (∀ x ∈ l, x < 256) ∧
    (l = [] ∨ ∃ b off, a = some ⟨b, off, none⟩ ∧ b < w.heap.size ∧ ∀ k, (h : k < l.length) → w.cell? ⟨b, off + k, none⟩ = some (.int .u8 (l[k] : Int)))
structure ByteElem (P : Program) (E : TypeId) : Prop where
  info : (P.info? E).map (fun i => (i.zero, i.size, i.bytes)) = some (some (.int .u8 0), 1, 1)
theorem ByteElem.get {P : Program} {E : TypeId} (h : ByteElem P E) : ∃ i, P.info? E = some i ∧ i.zero = some (.int .u8 0) ∧ i.size = 1 ∧ i.bytes = 1 := by
  have h := h.info
  cases hx : P.info? E with
  | none => rw [hx] at h; simp at h
  | some i => rw [hx] at h; simp at h; exact ⟨i, rfl, h.1, h.2.1, h.2.2⟩
theorem Byts.view {w : World} {v : Value} {l : List Nat} (h : Byts w v l) (P : Program) (T E : TypeId) (hT : P.underlying T = some (.slice E)) (hs : ByteElem P E) :
    ∃ a b off c, v = .slice a l.length c ∧ l.length ≤ 9223372036854775807 ∧
      (∀ (w' : World) (k : Nat), k < l.length → (Instr.indexAt T (.slice a l.length c) (.int .i64 (k : Int))).run P w' = .ok (.pointer (some ⟨b, off + k, none⟩)) w') ∧
      (∀ k, (h : k < l.length) → w.cell? ⟨b, off + k, none⟩ = some (.int .u8 (l[k] : Int))) ∧ (l ≠ [] → b < w.heap.size ∧ a = some ⟨b, off, none⟩) ∧ (∀ x ∈ l, x < 256) := by
  obtain ⟨a, c, rfl, h1, h2, h3, h4⟩ := h
  have hE : P.elem T = E := by simp [Program.elem, hT]
  obtain ⟨i, hi, _, hi', _⟩ := hs.get
  rcases h4 with rfl | ⟨b, off, rfl, hb, hc⟩
  · exact ⟨a, 0, 0, c, rfl, by simp, fun w' k hk => by simp at hk, fun k hk => by simp at hk, fun h => absurd rfl h, h3⟩
  · refine ⟨_, b, off, c, rfl, by unfold maxLen at h2; omega, fun w' k hk => ?_, hc, fun _ => ⟨hb, rfl⟩, h3⟩
    rw [run_indexAt_slice w' T ⟨b, off, none⟩ l.length c .i64 k (by rw [hE]; exact hT), if_pos ⟨by omega, by omega⟩, hE]
    simp [sizeOf, typeInfo, hi, hi', Addr.add]
theorem Byts.below {B : Nat} {w w' : World} {v : Value} {l : List Nat} (h : Byts w v l) (hb : Below B w w') (hB : w.heap.size ≤ B) : Byts w' v l := by
  obtain ⟨a, c, rfl, h1, h2, h3, h4⟩ := h
  refine ⟨a, c, rfl, h1, h2, h3, ?_⟩
  rcases h4 with rfl | ⟨b, off, rfl, hlt, hc⟩
  · exact .inl rfl
  · refine .inr ⟨b, off, rfl, Nat.lt_of_lt_of_le hlt hb.size, fun k hk => ?_⟩
    rw [hb.cell (p := ⟨b, off + k, none⟩) (by show b < B; omega)]
    exact hc k hk
theorem Byts.grow {w w' : World} {row : Option Nat} {v : Value} {l : List Nat} (h : Byts w v l) (hg : w.grownBy w' row) (hne : l ≠ [] → ∀ b off n c, v = .slice (some ⟨b, off, none⟩) n c → row ≠ some b) : Byts w' v l := by
  obtain ⟨a, c, rfl, h1, h2, h3, h4⟩ := h
  refine ⟨a, c, rfl, h1, h2, h3, ?_⟩
  rcases h4 with rfl | ⟨b, off, rfl, hlt, hc⟩
  · exact .inl rfl
  · refine .inr ⟨b, off, rfl, Nat.lt_of_lt_of_le hlt hg.size, fun k hk => ?_⟩
    exact grown_keep hg (hc k hk) (fun q hq e => hne (fun e2 => by rw [e2] at hk; simp at hk) b off _ c rfl (by rw [hq, ← e]))
theorem mask255 (x : Int) : 0 ≤ bits .and .i64 x 255 ∧ bits .and .i64 x 255 < 256 := by
  have h : (BitVec.ofInt IntKind.i64.bits x &&& BitVec.ofInt IntKind.i64.bits 255).toNat ≤ 255 := by
    rw [BitVec.toNat_and]
    exact Nat.and_le_right
  unfold bits
  rw [IntKind.wrap_i64]
  simp only
  omega
end Go.G5
namespace Go.Proofs.Ytgdkeaooipmgbaa
open Go.RowKit Go.G5

theorem byteElem : ByteElem Try.prog 5 := ⟨by kernel_rfl⟩
/-- block g holds a cursor -/
def Dr (w : World) (g : Nat) : Prop := ∃ (v : Value) (l : List Nat) (i : Nat) (h : Int), Blk w g 68 #[v, .int .i64 i, .int .i64 h] ∧ Byts w v l ∧ (l ≠ [] → ∀ b off n c, v = .slice (some ⟨b, off, none⟩) n c → b < g)
theorem Dr.lt {w : World} {g : Nat} (D : Dr w g) : g < w.heap.size := by obtain ⟨_, _, _, _, K, _⟩ := D; exact K.lt
theorem Dr.keep {w w' : World} {g : Nat} (D : Dr w g) (hb : Below w.heap.size w w') : Dr w' g := by
  obtain ⟨v, l, i, h, K, hv, hne⟩ := D
  exact ⟨v, l, i, h, K.keep hb, hv.below hb (Nat.le_refl _), hne⟩
theorem Dr.grow {w w' : World} {g : Nat} {row : Option Nat} (D : Dr w g) (hg : w.grownBy w' row) (h1 : ∀ k, row = some k → g < k) : Dr w' g := by
  obtain ⟨v, l, i, h, K, hv, hne⟩ := D
  exact ⟨v, l, i, h, K.grow hg (fun e => by have := h1 g e; omega), hv.grow hg (fun h0 b off n c e e2 => by have := hne h0 b off n c e; have := h1 b e2; omega), hne⟩
theorem Dr.setCell {w : World} {g b i : Nat} (D : Dr w g) (u : Value) (hb : g < b) : Dr (w.setCell ⟨b, i, none⟩ u) g := D.grow (grown_setCell w ⟨b, i, none⟩ u) (fun k e => by have := Option.some.inj e; simp at this; omega)
theorem grow_drewN {w w' : World} {row : Option Nat} (h : w.grownBy w' row) (n : Nat) : w.grownBy (w'.drewN n) row := gr_trans h (gr_below row ((Below.refl _ _).drewN' n))

set_option maxHeartbeats 1000000 in
set_option maxRecDepth 100000 in
theorem l1Byte_any (w : World) (g : Nat) (D : Dr w g) :
    Calls Try.prog 76 #[.pointer (some ⟨g, 0, none⟩)] w fun e w' => ∃ x : Nat, x < 256 ∧ e = .returned (.int .i64 x) ∧ Dr w' g ∧ w.grownBy w' (some g) := by
  obtain ⟨v, l, i, h, K, hv, hne⟩ := D
  have hv0 := hv
  obtain ⟨a, b, off, c, rfl, hlen, hix, hc, hb, h256⟩ := hv.view Try.prog 22 5 Try.underlying22 byteElem
  have G := K.cell
  have F := K.frozen
  have G2 := fun u => (K.set 2 u).cell
  have F2 := fun u => (K.set 2 u).frozen
  by_cases hlt : i < l.length
  · have hlt2 : (i : Int) < (l.length : Int) := by omega
    have hnil : l ≠ [] := by intro e; rw [e] at hlt; simp at hlt
    obtain ⟨hbs, rfl⟩ := hb hnil
    have hbg : b ≠ g := by have := hne hnil b off _ c rfl; omega
    have hck := hc i hlt
    have hixk := fun W => hix W i hlt
    have hx := h256 l[i] (List.getElem_mem _)
    obtain ⟨y, hy⟩ : ∃ y, y = l[i] := ⟨_, rfl⟩
    rw [← hy] at hck hx
    have hck2 : ∀ u, (w.setCell ⟨g, 2, none⟩ u).cell? ⟨b, off + i, none⟩ = some (.int .u8 y) := fun u => by rw [World.cell?_setCell_other _ _ _ _ (fun e => hbg (congrArg Addr.block e).symm)]; exact hck
    clear hc hix hb hy
    go_enter Try.func76, Try.ntmps76
    go_wp2_with fail
    go_quiet (fail)
    go_wp2_with fail
    go_quiet (fail)
    go_wp2_with fail
    go_quiet (fail)
    go_wp2
    refine post_named ?_
    intro Wf hWf
    have gf : w.grownBy Wf (some g) := by rw [hWf]; exact grow_set (grow_drewN (grow_set (World.grownBy.refl _ _) 2 _) _) 1 _
    have vf := hv0.grow gf (fun h0 b' off' n' c' e => by have := hne h0 b' off' n' c' e; simp; omega)
    obtain ⟨q, hq⟩ : ∃ q, q = bits .and .i64 (wrap64 (bits .and .i64 (bits .xor .i64 (wrap64 (wrap64 (h * 6364136223846793005) + 1442695040888963407) / 8589934592) (wrap64 (wrap64 (h * 6364136223846793005) + 1442695040888963407) / 35184372088832)) 255 + (y : Int))) 255 := ⟨_, rfl⟩
    have hm := mask255 (wrap64 (bits .and .i64 (bits .xor .i64 (wrap64 (wrap64 (h * 6364136223846793005) + 1442695040888963407) / 8589934592) (wrap64 (wrap64 (h * 6364136223846793005) + 1442695040888963407) / 35184372088832)) 255 + (y : Int)))
    rw [← hq] at hm ⊢
    have KF : Blk Wf g 68 #[.slice (some ⟨b, off, none⟩) l.length c, .int .i64 ((i + 1 : Nat) : Int), .int .i64 (wrap64 (wrap64 (h * 6364136223846793005) + 1442695040888963407))] := by
      rw [hWf]
      exact (K.set 2 _).set 1 _
    clear hWf G F G2 F2
    go_ret
    exact ⟨q.toNat, by omega, ret_int (show q = ((q.toNat : Nat) : Int) by omega), ⟨_, l, i + 1, _, KF, vf, hne⟩, gf⟩
  · have hlt2 : ¬ (i : Int) < (l.length : Int) := by omega
    clear hc hix hb
    go_enter Try.func76, Try.ntmps76
    go_wp2_with fail
    go_quiet (fail)
    go_wp2_with fail
    go_quiet (fail)
    go_wp2
    refine post_named ?_
    intro Wf hWf
    have gf : w.grownBy Wf (some g) := by rw [hWf]; exact grow_drewN (grow_drewN (grow_set (World.grownBy.refl _ _) 2 _) _) _
    have vf := hv0.grow gf (fun h0 b' off' n' c' e => by have := hne h0 b' off' n' c' e; simp; omega)
    obtain ⟨q, hq⟩ : ∃ q, q = bits .and .i64 (bits .xor .i64 (wrap64 (wrap64 (h * 6364136223846793005) + 1442695040888963407) / 8589934592) (wrap64 (wrap64 (h * 6364136223846793005) + 1442695040888963407) / 35184372088832)) 255 := ⟨_, rfl⟩
    have hm := mask255 (bits .xor .i64 (wrap64 (wrap64 (h * 6364136223846793005) + 1442695040888963407) / 8589934592) (wrap64 (wrap64 (h * 6364136223846793005) + 1442695040888963407) / 35184372088832))
    rw [← hq] at hm ⊢
    have KF : Blk Wf g 68 #[.slice a l.length c, .int .i64 (i : Int), .int .i64 (wrap64 (wrap64 (h * 6364136223846793005) + 1442695040888963407))] := by
      rw [hWf]
      exact K.set 2 _
    clear hWf G F G2 F2
    go_ret
    exact ⟨q.toNat, by omega, ret_int (show q = ((q.toNat : Nat) : Int) by omega), ⟨_, l, i, _, KF, vf, hne⟩, gf⟩
end Go.Proofs.Ytgdkeaooipmgbaa
end
section
namespace Go.Proofs.Ytgdkeaooipmgbaa
open Go.RowKit Go.G5

def szL (left : Int) (n : Nat) : Int := if left - n < 0 then -1 else left - n
set_option maxHeartbeats 400000 in
theorem l2Same_any (v v' : Value) (l l' : List Int) (w : World) (hv : Ints w v l) (hv' : Ints w v' l') :
    Calls Try.prog 45 #[v, v'] w fun e w' => e = .returned (.bool (decide (l = l'))) ∧ ∃ n, w' = w.drewN n := by
  obtain ⟨a, b, off, c, rfl, hlen, hix, hc, hb⟩ := hv.view Try.prog 24 3 Try.underlying24 intElem
  obtain ⟨a', b', off', c', rfl, hlen', hix', hc', hb'⟩ := hv'.view Try.prog 24 3 Try.underlying24 intElem
  by_cases hll : l.length = l'.length
  · have HL := Lib.hid hll
    have hle1 : l.length ≤ l'.length := by omega
    have hle2 : l'.length ≤ l.length := by omega
    have hb1 : ((l.length : Int) != (l'.length : Int)) = false := by simp [hll]
    clear hll
    go_enter Try.func45, Try.ntmps45
    go_wp2
    go_loopw [5] (fun i wr => ∃ k n : Nat, k ≤ l.length ∧ i = .int .i64 k ∧ wr = w.drewN n ∧ (∀ j (h : j < l.length) (h' : j < l'.length), j < k → l[j] = l'[j]))
      (fun i _ => l.length - (intOf i).toNat)
    case atStart => exact ⟨0, 0, Nat.zero_le _, rfl, rfl, by intros; omega⟩
    case round =>
      obtain ⟨k, n, hk, rfl, rfl, hall⟩ := hrel
      have H := Lib.hid hall
      clear hall
      by_cases hlt : k < l.length
      · have hlt' : k < l'.length := by omega
        by_cases heq : l[k] = l'[k]
        · have ht : (l[k] != l'[k]) = false := by simp [heq]
          have HQ := Lib.hid heq
          clear heq
          go_wp2
          go_quiet (fail)
          go_wp2
          go_roundw
          case rel =>
            refine ⟨k + 1, _, by omega, by go_num, rfl, fun j h h' hj => ?_⟩
            by_cases hjk : j = k
            · subst hjk; exact HQ.out
            · exact H.out j h h' (by omega)
          case measure => simp [intOf]; omega
        · have ht : (l[k] != l'[k]) = true := by simp [heq]
          have HQ := Lib.hid heq
          clear heq
          go_wp2
          go_quiet (fail)
          go_wp2
          go_ret
          exact ⟨ret_bool (by simp; intro e; subst e; exact HQ.out rfl), ⟨n + nq, by simp⟩⟩
      · have hkl : l.length ≤ k := by omega
        go_wp2
        go_ret
        exact ⟨ret_bool (by simp; exact List.ext_getElem HL.out fun j h h' => H.out j h h' (by omega)), ⟨n, rfl⟩⟩
  · go_enter Try.func45, Try.ntmps45
    go_wp2
    go_ret
    exact ⟨ret_bool (by simp; intro h; exact hll (by rw [h])), ⟨0, rfl⟩⟩

theorem equalFunctionsS_any (n n' : Int) (v v' : Value) (l l' : List Int) (w : World) (hv : Ints w v l) (hv' : Ints w v' l') :
    Calls Try.prog 12 #[.agg #[.int .i64 n, v], .agg #[.int .i64 n', v']] w fun e w' => e = .returned (.bool (decide (n = n') && decide (l = l'))) ∧ Below w.heap.size w w' := by
  obtain ⟨av, cv, rfl⟩ := hv.shape
  obtain ⟨av', cv', rfl⟩ := hv'.shape
  by_cases hn : n = n'
  · subst hn
    have hnn : (n == n) = true := by simp
    go_enter Try.func12, Try.ntmps12
    go_wp2_with (go_at_call 45; refine (l2Same_any _ _ l l' _ ((hv.alloc _).alloc _) ((hv'.alloc _).alloc _)).mono ?_; rintro e w1 ⟨rfl, nn, rfl⟩)
    go_ret
    exact ⟨ret_bool (by simp), (bl2 _ _ _).drewN' _⟩
  · have hn' : (n == n') = false := by simp [hn]
    go_enter Try.func12, Try.ntmps12
    go_wp2
    go_ret
    exact ⟨ret_bool (by simp [hn]), (bl2 _ _ _)⟩

end Go.Proofs.Ytgdkeaooipmgbaa
end
section
namespace Go.Proofs.Ytgdkeaooipmgbaa
open Go.ChangeShapes Go.WideShapes Go.ChangeAt Go.RowKit Go.G5
set_option maxRecDepth 100000

theorem cells_u8 : Try.prog.cellsOf 5 = 1 := by kernel_rfl
theorem u8_of_wf {n : Int} (h : (Lit.int .u8 n).wf = true) : 0 ≤ n ∧ n < 256 := by
  simp only [Lit.wf, Bool.and_eq_true, decide_eq_true_eq] at h
  have h1 := h.1
  have h2 := h.2
  simp [IntKind.min, IntKind.max, IntKind.signed, IntKind.bits] at h1 h2
  exact ⟨by omega, by omega⟩
theorem rdc_bytes {H : Type} {enc : TypeId × Value → H} {w : World} {base : Nat} {spare : Nat → Bool} {held : Bool} {fuel : Nat} {c : Value} {x : DataW H × List MemPlace} (h : DataW.trod enc Try.prog w base spare held fuel 22 [c] = some x) : ∃ l, Byts w c l := by
  rcases open_ints Try.underlying22 Try.underlying5 cells_u8 h with ⟨hcs, _⟩ | ⟨a, len, cap, zs, hcs, _, hlc, hcap, hzl, _, hcell, hwf⟩
  · simp at hcs; subst hcs
    exact ⟨[], none, 0, rfl, Nat.le_refl _, Nat.zero_le _, by simp, .inl rfl⟩
  · simp at hcs; subst hcs
    have hle : len ≤ zs.length := by rw [hzl]; split <;> omega
    have hll : ((zs.take len).map Int.toNat).length = len := by simp; omega
    refine ⟨(zs.take len).map Int.toNat, some a, cap, by rw [hll], by rw [hll]; exact hlc, hcap, fun y hy => ?_, ?_⟩
    · obtain ⟨z, hz, rfl⟩ := List.mem_map.1 hy
      have := u8_of_wf (hwf z (List.mem_of_mem_take hz))
      omega
    · by_cases h0 : len = 0
      · left; subst h0; simp
      · right
        have hc0 := hcell 0 (by omega)
        have hs := spot_of_cell hc0
        have hb := lt_of_cell hc0
        simp [Addr.add] at hs hb
        refine ⟨a.block, a.off, by cases a; simp_all, hb, fun k hk => ?_⟩
        rw [hll] at hk
        have := hcell k (by omega)
        have e : (a.add k) = ⟨a.block, a.off + k, none⟩ := by
          unfold Addr.add
          by_cases hk0 : k = 0
          · subst hk0; cases a; simp_all
          · simp [hk0]
        rw [e] at this
        rw [this]
        have hz := u8_of_wf (hwf zs[k] (List.getElem_mem _))
        have hg : zs.getD k 0 = zs[k] := by simp [List.getD_eq_getElem?_getD, List.getElem?_eq_getElem (show k < zs.length by omega)]
        have hg2 : ((zs.take len).map Int.toNat)[k] = zs[k].toNat := by simp
        rw [hg, hg2, show ((zs[k].toNat : Nat) : Int) = zs[k] by omega]
theorem rd_bytes {H : Type} {enc : TypeId × Value → H} {W : World} {base : Nat} {v : Value} {d : DataW H} {p : List MemPlace} (hv : Value.okWide Try.prog W .any base 22 v) (h : DataW.Trod enc Try.prog W 0 (fun _ => true) true 22 v d p) : ∃ l, Byts W v l := by
  obtain ⟨a, n, c, rfl⟩ := okWide_slice Try.underlying22 hv
  obtain ⟨fuel, hf⟩ := h
  exact rdc_bytes hf

theorem big_any (w : World) (v : Value) (l : List Nat) (hv : Byts w v l) :
    Calls Try.prog 4 #[v] w fun e w' => e = .returned (.bool (decide ((1048576 : Int) < l.length))) ∧ w = w' := by
  obtain ⟨a, c, rfl, _⟩ := hv
  go_enter Try.func4, Try.ntmps4
  go_wp2
  go_ret
  exact ⟨rfl, rfl⟩
set_option maxHeartbeats 1000000 in
theorem sameInts_any (v v' : Value) (l l' : List Int) (w : World) (hv : Ints w v l) (hv' : Ints w v' l') :
    Calls Try.prog 7 #[v, v'] w fun e w' => e = .returned (.bool (decide (l = l'))) ∧ Below w.heap.size w w' := by
  obtain ⟨a, b, off, c, rfl, hlen, hix, hc, hb⟩ := hv.view Try.prog 24 3 Try.underlying24 intElem
  obtain ⟨a', b', off', c', rfl, hlen', hix', hc', hb'⟩ := hv'.view Try.prog 24 3 Try.underlying24 intElem
  by_cases hll : (l.length : Int) = (l'.length : Int)
  · have hl2 : l.length = l'.length := by omega
    have HL := Lib.hid hl2
    have hle1 : l.length ≤ l'.length := by omega
    have hle2 : l'.length ≤ l.length := by omega
    have hb1 : ((l.length : Int) != (l'.length : Int)) = false := by simp [hl2]
    clear hll hl2
    go_enter Try.func7, Try.ntmps7
    go_wp2
    go_loopw [5] (fun i wr => ∃ k : Nat, k ≤ l.length ∧ i = .int .i64 k ∧ l.take k = l'.take k ∧ Below w.heap.size w wr) (fun i _ => l.length - (intOf i).toNat)
    case atStart => exact ⟨0, Nat.zero_le _, rfl, by simp, Below.refl _ _⟩
    case round =>
      obtain ⟨k, hk, rfl, ht, B⟩ := hrel
      have HT := Lib.hid ht
      clear ht
      by_cases hlt : k < l.length
      · have hlt2 : (k : Int) < (l'.length : Int) := by omega
        have hlt3 : (k : Int) < (l.length : Int) := by omega
        have ck := cells_below hc hb B (Nat.le_refl _) k hlt
        have ck' := cells_below hc' hb' B (Nat.le_refl _) k (by omega)
        have ik := fun W => hix W k hlt
        have ik' := fun W => hix' W k (by omega)
        have e1 : l.take (k + 1) = l.take k ++ [l[k]] := List.take_succ_eq_append_getElem hlt
        have e2 : l'.take (k + 1) = l'.take k ++ [l'[k]'(by omega)] := List.take_succ_eq_append_getElem (by omega)
        have hne : l[k] ≠ l'[k]'(by omega) → l ≠ l' := fun h e => by subst e; exact h rfl
        obtain ⟨x, hx⟩ : ∃ x, x = l[k] := ⟨_, rfl⟩
        obtain ⟨y, hy⟩ : ∃ y, y = l'[k]'(by omega) := ⟨_, rfl⟩
        rw [← hx] at ck e1 hne
        rw [← hy] at ck' e2 hne
        have H := Lib.hid (And.intro e1 (And.intro e2 hne))
        clear e1 e2 hne hx hy
        by_cases hxy : x = y
        · have ht : (x != y) = false := by simp [hxy]
          have HQ := Lib.hid hxy
          clear hxy
          go_wp2
          go_quiet (fail)
          go_wp2
          go_roundw
          case rel => exact ⟨k + 1, by omega, by go_num, by rw [H.out.1, H.out.2.1, HT.out, HQ.out], B.drewN' _⟩
          case measure => simp [intOf]; omega
        · have ht : (x != y) = true := by simp [hxy]
          have HQ := Lib.hid hxy
          clear hxy
          go_wp2
          go_quiet (fail)
          go_wp2
          go_ret
          exact ⟨ret_bool (decide_eq_false (H.out.2.2 HQ.out)).symm, B.drewN' _⟩
      · have hlt3 : ¬ (k : Int) < (l'.length : Int) := by omega
        have hlt4 : ¬ (k : Int) < (l.length : Int) := by omega
        have he : l = l' := by
          have := HT.out
          rw [List.take_of_length_le (by omega), List.take_of_length_le (by omega)] at this
          exact this
        have HE := Lib.hid he
        clear he
        go_wp2
        go_ret
        exact ⟨ret_bool (decide_eq_true HE.out).symm, B⟩
  · have hne : l ≠ l' := fun e => by subst e; exact hll rfl
    have hb1 : ((l.length : Int) != (l'.length : Int)) = true := by simp; omega
    clear hll
    have HN := Lib.hid hne
    clear hne
    go_enter Try.func7, Try.ntmps7
    go_wp2
    go_ret
    exact ⟨ret_bool (decide_eq_false HN.out).symm, Below.refl _ _⟩
theorem sameInts_true (v v' : Value) (l : List Int) (w : World) (hv : Ints w v l) (hv' : Ints w v' l) :
    Calls Try.prog 7 #[v, v'] w fun e w' => e = .returned (.bool true) ∧ Below w.heap.size w w' :=
  (sameInts_any v v' l l w hv hv').mono (by rintro e w' ⟨rfl, hb⟩; exact ⟨by rw [decide_eq_true rfl], hb⟩)
end Go.Proofs.Ytgdkeaooipmgbaa
end
