/- Draws: a cursor over the bytes that were handed. -/
import Derived.Test.YtmfenalnmpndmaaTab
import Derived.Test.YtmfenalnmpndmaaBits
import Derived.Test.YtmfenalnmpndmaaBlk
import Derived.Test.YtmfenalnmpndmaaApp
namespace Go.G5
open Go Go.RowKit

/-- the slice value v reads as the bytes l in w -/
def Byts (w : World) (v : Value) (l : List Nat) : Prop :=
  ∃ a c, v = .slice a l.length c ∧ l.length ≤ c ∧ c ≤ maxLen ∧ (∀ x ∈ l, x < 256) ∧
    (l = [] ∨ ∃ b off, a = some ⟨b, off, none⟩ ∧ b < w.heap.size ∧ ∀ k, (h : k < l.length) → w.cell? ⟨b, off + k, none⟩ = some (.int .u8 (l[k] : Int)))
structure ByteElem (P : Program) (E : TypeId) : Prop where
  info : (P.info? E).map (fun i => (i.zero, i.size, i.bytes)) = some (some (.int .u8 0), 1, 1)
theorem ByteElem.get {P : Program} {E : TypeId} (h : ByteElem P E) : ∃ i, P.info? E = some i ∧ i.zero = some (.int .u8 0) ∧ i.size = 1 ∧ i.bytes = 1 := by
  have h := h.info
  cases hx : P.info? E with
  | none => rw [hx] at h; simp at h
  | some i => rw [hx] at h; simp at h; exact ⟨i, rfl, h.1, h.2.1, h.2.2⟩
theorem Byts.view {w : World} {v : Value} {l : List Nat} (h : Byts w v l) (P : Program) (T E : TypeId) (hT : P.underlying T = some (.slice E)) (hs : ByteElem P E) :
    ∃ a b off c, v = .slice a l.length c ∧ l.length ≤ 9223372036854775807 ∧
      (∀ (w' : World) (k : Nat), k < l.length → (Instr.indexAt T (.slice a l.length c) (.int .i64 (k : Int))).run P w' = .ok (.pointer (some ⟨b, off + k, none⟩)) w') ∧
      (∀ k, (h : k < l.length) → w.cell? ⟨b, off + k, none⟩ = some (.int .u8 (l[k] : Int))) ∧ (l ≠ [] → b < w.heap.size ∧ a = some ⟨b, off, none⟩) ∧ (∀ x ∈ l, x < 256) := by
  obtain ⟨a, c, rfl, h1, h2, h3, h4⟩ := h
  have hE : P.elem T = E := by simp [Program.elem, hT]
  obtain ⟨i, hi, _, hi', _⟩ := hs.get
  rcases h4 with rfl | ⟨b, off, rfl, hb, hc⟩
  · exact ⟨a, 0, 0, c, rfl, by simp, fun w' k hk => by simp at hk, fun k hk => by simp at hk, fun h => absurd rfl h, h3⟩
  · refine ⟨_, b, off, c, rfl, by unfold maxLen at h2; omega, fun w' k hk => ?_, hc, fun _ => ⟨hb, rfl⟩, h3⟩
    rw [run_indexAt_slice w' T ⟨b, off, none⟩ l.length c .i64 k (by rw [hE]; exact hT), if_pos ⟨by omega, by omega⟩, hE]
    simp [sizeOf, typeInfo, hi, hi', Addr.add]
theorem Byts.below {B : Nat} {w w' : World} {v : Value} {l : List Nat} (h : Byts w v l) (hb : Below B w w') (hB : w.heap.size ≤ B) : Byts w' v l := by
  obtain ⟨a, c, rfl, h1, h2, h3, h4⟩ := h
  refine ⟨a, c, rfl, h1, h2, h3, ?_⟩
  rcases h4 with rfl | ⟨b, off, rfl, hlt, hc⟩
  · exact .inl rfl
  · refine .inr ⟨b, off, rfl, Nat.lt_of_lt_of_le hlt hb.size, fun k hk => ?_⟩
    rw [hb.cell (p := ⟨b, off + k, none⟩) (by show b < B; omega)]
    exact hc k hk
theorem Byts.grow {w w' : World} {row : Option Nat} {v : Value} {l : List Nat} (h : Byts w v l) (hg : w.grownBy w' row) (hne : l ≠ [] → ∀ b off n c, v = .slice (some ⟨b, off, none⟩) n c → row ≠ some b) : Byts w' v l := by
  obtain ⟨a, c, rfl, h1, h2, h3, h4⟩ := h
  refine ⟨a, c, rfl, h1, h2, h3, ?_⟩
  rcases h4 with rfl | ⟨b, off, rfl, hlt, hc⟩
  · exact .inl rfl
  · refine .inr ⟨b, off, rfl, Nat.lt_of_lt_of_le hlt hg.size, fun k hk => ?_⟩
    exact grown_keep hg (hc k hk) (fun q hq e => hne (fun e2 => by rw [e2] at hk; simp at hk) b off _ c rfl (by rw [hq, ← e]))
theorem mask255 (x : Int) : 0 ≤ bits .and .i64 x 255 ∧ bits .and .i64 x 255 < 256 := by
  have h : (BitVec.ofInt IntKind.i64.bits x &&& BitVec.ofInt IntKind.i64.bits 255).toNat ≤ 255 := by
    rw [BitVec.toNat_and]
    exact Nat.and_le_right
  unfold bits
  rw [IntKind.wrap_i64]
  simp only
  omega
end Go.G5
namespace Go.Proofs.Ytmfenalnmpndmaa
open Go.RowKit Go.G5

theorem byteElem : ByteElem Try.prog 5 := ⟨by kernel_rfl⟩
/-- block g holds a cursor -/
def Dr (w : World) (g : Nat) : Prop := ∃ (v : Value) (l : List Nat) (i : Nat) (h : Int), Blk w g 91 #[v, .int .i64 i, .int .i64 h] ∧ Byts w v l ∧ (l ≠ [] → ∀ b off n c, v = .slice (some ⟨b, off, none⟩) n c → b < g)
theorem Dr.lt {w : World} {g : Nat} (D : Dr w g) : g < w.heap.size := by obtain ⟨_, _, _, _, K, _⟩ := D; exact K.lt
theorem Dr.keep {w w' : World} {g : Nat} (D : Dr w g) (hb : Below w.heap.size w w') : Dr w' g := by
  obtain ⟨v, l, i, h, K, hv, hne⟩ := D
  exact ⟨v, l, i, h, K.keep hb, hv.below hb (Nat.le_refl _), hne⟩
theorem Dr.grow {w w' : World} {g : Nat} {row : Option Nat} (D : Dr w g) (hg : w.grownBy w' row) (h1 : ∀ k, row = some k → g < k) : Dr w' g := by
  obtain ⟨v, l, i, h, K, hv, hne⟩ := D
  exact ⟨v, l, i, h, K.grow hg (fun e => by have := h1 g e; omega), hv.grow hg (fun h0 b off n c e e2 => by have := hne h0 b off n c e; have := h1 b e2; omega), hne⟩
theorem Dr.setCell {w : World} {g b i : Nat} (D : Dr w g) (u : Value) (hb : g < b) : Dr (w.setCell ⟨b, i, none⟩ u) g := D.grow (grown_setCell w ⟨b, i, none⟩ u) (fun k e => by have := Option.some.inj e; simp at this; omega)
theorem grow_drewN {w w' : World} {row : Option Nat} (h : w.grownBy w' row) (n : Nat) : w.grownBy (w'.drewN n) row := gr_trans h (gr_below row ((Below.refl _ _).drewN' n))

set_option maxHeartbeats 1000000 in
set_option maxRecDepth 100000 in
theorem l1Byte_any (w : World) (g : Nat) (D : Dr w g) :
    Calls Try.prog 117 #[.pointer (some ⟨g, 0, none⟩)] w fun e w' => ∃ x : Nat, x < 256 ∧ e = .returned (.int .i64 x) ∧ Dr w' g ∧ w.grownBy w' (some g) := by
  obtain ⟨v, l, i, h, K, hv, hne⟩ := D
  have hv0 := hv
  obtain ⟨a, b, off, c, rfl, hlen, hix, hc, hb, h256⟩ := hv.view Try.prog 22 5 Try.underlying22 byteElem
  have G := K.cell
  have F := K.frozen
  have G2 := fun u => (K.set 2 u).cell
  have F2 := fun u => (K.set 2 u).frozen
  by_cases hlt : i < l.length
  · have hlt2 : (i : Int) < (l.length : Int) := by omega
    have hnil : l ≠ [] := by intro e; rw [e] at hlt; simp at hlt
    obtain ⟨hbs, rfl⟩ := hb hnil
    have hbg : b ≠ g := by have := hne hnil b off _ c rfl; omega
    have hck := hc i hlt
    have hixk := fun W => hix W i hlt
    have hx := h256 l[i] (List.getElem_mem _)
    obtain ⟨y, hy⟩ : ∃ y, y = l[i] := ⟨_, rfl⟩
    rw [← hy] at hck hx
    have hck2 : ∀ u, (w.setCell ⟨g, 2, none⟩ u).cell? ⟨b, off + i, none⟩ = some (.int .u8 y) := fun u => by rw [World.cell?_setCell_other _ _ _ _ (fun e => hbg (congrArg Addr.block e).symm)]; exact hck
    clear hc hix hb hy
    go_enter Try.func117, Try.ntmps117
    go_wp2_with fail
    go_quiet (fail)
    go_wp2_with fail
    go_quiet (fail)
    go_wp2_with fail
    go_quiet (fail)
    go_wp2
    refine post_named ?_
    intro Wf hWf
    have gf : w.grownBy Wf (some g) := by rw [hWf]; exact grow_set (grow_drewN (grow_set (World.grownBy.refl _ _) 2 _) _) 1 _
    have vf := hv0.grow gf (fun h0 b' off' n' c' e => by have := hne h0 b' off' n' c' e; simp; omega)
    obtain ⟨q, hq⟩ : ∃ q, q = bits .and .i64 (wrap64 (bits .and .i64 (bits .xor .i64 (wrap64 (wrap64 (h * 6364136223846793005) + 1442695040888963407) / 8589934592) (wrap64 (wrap64 (h * 6364136223846793005) + 1442695040888963407) / 35184372088832)) 255 + (y : Int))) 255 := ⟨_, rfl⟩
    have hm := mask255 (wrap64 (bits .and .i64 (bits .xor .i64 (wrap64 (wrap64 (h * 6364136223846793005) + 1442695040888963407) / 8589934592) (wrap64 (wrap64 (h * 6364136223846793005) + 1442695040888963407) / 35184372088832)) 255 + (y : Int)))
    rw [← hq] at hm ⊢
    have KF : Blk Wf g 91 #[.slice (some ⟨b, off, none⟩) l.length c, .int .i64 ((i + 1 : Nat) : Int), .int .i64 (wrap64 (wrap64 (h * 6364136223846793005) + 1442695040888963407))] := by
      rw [hWf]
      exact (K.set 2 _).set 1 _
    clear hWf G F G2 F2
    go_ret
    exact ⟨q.toNat, by omega, ret_int (show q = ((q.toNat : Nat) : Int) by omega), ⟨_, l, i + 1, _, KF, vf, hne⟩, gf⟩
  · have hlt2 : ¬ (i : Int) < (l.length : Int) := by omega
    clear hc hix hb
    go_enter Try.func117, Try.ntmps117
    go_wp2_with fail
    go_quiet (fail)
    go_wp2_with fail
    go_quiet (fail)
    go_wp2
    refine post_named ?_
    intro Wf hWf
    have gf : w.grownBy Wf (some g) := by rw [hWf]; exact grow_drewN (grow_drewN (grow_set (World.grownBy.refl _ _) 2 _) _) _
    have vf := hv0.grow gf (fun h0 b' off' n' c' e => by have := hne h0 b' off' n' c' e; simp; omega)
    obtain ⟨q, hq⟩ : ∃ q, q = bits .and .i64 (bits .xor .i64 (wrap64 (wrap64 (h * 6364136223846793005) + 1442695040888963407) / 8589934592) (wrap64 (wrap64 (h * 6364136223846793005) + 1442695040888963407) / 35184372088832)) 255 := ⟨_, rfl⟩
    have hm := mask255 (bits .xor .i64 (wrap64 (wrap64 (h * 6364136223846793005) + 1442695040888963407) / 8589934592) (wrap64 (wrap64 (h * 6364136223846793005) + 1442695040888963407) / 35184372088832))
    rw [← hq] at hm ⊢
    have KF : Blk Wf g 91 #[.slice a l.length c, .int .i64 (i : Int), .int .i64 (wrap64 (wrap64 (h * 6364136223846793005) + 1442695040888963407))] := by
      rw [hWf]
      exact K.set 2 _
    clear hWf G F G2 F2
    go_ret
    exact ⟨q.toNat, by omega, ret_int (show q = ((q.toNat : Nat) : Int) by omega), ⟨_, l, i, _, KF, vf, hne⟩, gf⟩
end Go.Proofs.Ytmfenalnmpndmaa
