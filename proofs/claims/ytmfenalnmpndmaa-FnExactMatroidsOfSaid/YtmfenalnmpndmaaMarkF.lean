/- Marks and looks of slices of functions. -/
import Derived.Test.YtmfenalnmpndmaaMatF
import Derived.Test.YtmfenalnmpndmaaMark
namespace Go.G5
open Go Go.RowKit
theorem fcells_set : ∀ (its : List FIt) (j : Nat) (h : j < its.length) (k : Int) (l' : List Int), fcells (its.set j (k, its[j].2.1, l')) = (fcells its).set (2 * j) (.int .i64 k) := by
  intro its
  induction its with
  | nil => intro j h; simp at h
  | cons t its ih =>
    intro j h k l'
    cases j with
    | zero => rfl
    | succ j =>
      have := ih j (by simpa using h) k l'
      rw [List.set_cons_succ, fcells, fcells, show 2 * (j + 1) = 2 * j + 1 + 1 by omega, List.set_cons_succ, List.set_cons_succ]
      rw [← this]; rfl
theorem FunsW.mark {F I : TypeId} {B : Nat} {w w2 : World} {b n cap : Nat} {its : List FIt} (h : FunsW F I B w (.slice (some ⟨b, 0, none⟩) n cap) its) (hne : F ≠ I) (j : Nat) (hj : j < its.length) (k : Int) (hk : InR k) (l' : List Int)
    (ho : OwnW I 0 w2 its[j].2.1 l') (hg : (w.setCell ⟨b, 2 * j, none⟩ (.int .i64 k)).grownBy w2 its[j].2.1.ownBlock) (hap : ∀ i (hi : i < its.length), i ≠ j → Apart its[j].2.1 its[i].2.1) :
    FunsW F I B w2 (.slice (some ⟨b, 0, none⟩) n cap) (its.set j (k, its[j].2.1, l')) := by
  have hap0 := h.apart hne
  have hn : n = its.length := by
    obtain ⟨a, c, e⟩ := h.shape
    injection e
  subst hn
  have hs := h.row.stored (2 * j) (.int .i64 k)
  refine ⟨?_, fun t ht => ?_⟩
  · rw [fcells_set its j hj k l', List.length_set]
    exact hs.1.kept hg (.inr (fun e => hap0 _ (List.getElem_mem hj) b rfl e.symm))
  · obtain ⟨i, hi, rfl⟩ := List.getElem_of_mem ht
    rw [List.length_set] at hi
    rw [List.getElem_set]
    by_cases hij : j = i
    · rw [if_pos hij]; exact ⟨hk, ho⟩
    · rw [if_neg hij]
      have he := h.els _ (List.getElem_mem hi)
      refine ⟨he.1, (he.2.grow (grown_setCell w ⟨b, 2 * j, none⟩ (.int .i64 k)) (fun q hq => ?_)).grow hg (fun q hq => hap i hi (fun e => hij e.symm) q hq)⟩
      have hq := Option.some.inj hq
      rw [← hq]
      exact hap0 _ (List.getElem_mem hi) b rfl
end Go.G5
namespace Go.G5
open Go Go.RowKit
theorem cell_setCell_off (w : World) (b i j : Nat) (u : Value) (h : i ≠ j) : (w.setCell ⟨b, i, none⟩ u).cell? ⟨b, j, none⟩ = w.cell? ⟨b, j, none⟩ := by
  simp [World.cell?, World.setCell, Array.getElem?_modify]
  cases w.heap[b]? with
  | none => rfl
  | some o => cases o <;> simp_all
end Go.G5
namespace Go.Proofs.Ytmfenalnmpndmaa
open Go.RowKit Go.G5

def lenAt (its : List FIt) (i : Nat) : Nat := (its.map fun t => t.2.2.length).getD i 0
theorem lenAt_is (its : List FIt) (i : Nat) (h : i < its.length) : lenAt its i = its[i].2.2.length := by
  unfold lenAt
  rw [List.getD_eq_getElem?_getD, List.getElem?_map, List.getElem?_eq_getElem h]; rfl
def kAt (k0 : Int) (its : List FIt) : Nat → Int
  | 0 => k0
  | i + 1 => kAt k0 its i + 1 + lenAt its i
theorem kAt_bd (k0 : Int) (its : List FIt) (h0 : 0 ≤ k0) (h : ∀ t ∈ its, t.2.2.length ≤ 8) : ∀ i, i ≤ its.length → 0 ≤ kAt k0 its i ∧ kAt k0 its i ≤ k0 + 9 * i := by
  intro i
  induction i with
  | zero => intro _; simp [kAt]; exact h0
  | succ i ih =>
    intro hi
    have h1 := ih (by omega)
    have h2 := h _ (List.getElem_mem (show i < its.length by omega))
    rw [kAt, lenAt_is its i (by omega)]
    omega
/-- the first j of its are marked in L -/
structure Marked (k0 : Int) (its : List FIt) (j : Nat) (L : List FIt) : Prop where
  len : L.length = its.length
  old : ∀ i (h : i < its.length), i < j → L[i]? = some (kAt k0 its i, its[i].2.1, ramp (kAt k0 its i + 1) its[i].2.2.length)
  new : ∀ i (h : i < its.length), j ≤ i → L[i]? = some its[i]
theorem Marked.start (k0 : Int) (its : List FIt) : Marked k0 its 0 its := ⟨rfl, fun i _ h => by omega, fun i h _ => List.getElem?_eq_getElem h⟩
theorem Marked.next {k0 : Int} {its : List FIt} {j : Nat} {L : List FIt} (h : Marked k0 its j L) (hj : j < its.length) : Marked k0 its (j + 1) (L.set j (kAt k0 its j, its[j].2.1, ramp (kAt k0 its j + 1) its[j].2.2.length)) := by
  refine ⟨by rw [List.length_set]; exact h.len, fun i hi hij => ?_, fun i hi hij => ?_⟩
  · rw [List.getElem?_set]
    by_cases e : j = i
    · subst e
      rw [if_pos rfl, if_pos (by rw [h.len]; exact hj)]
    · rw [if_neg e]; exact h.old i hi (by omega)
  · rw [List.getElem?_set, if_neg (by omega)]
    exact h.new i hi (by omega)
theorem Marked.at {k0 : Int} {its : List FIt} {j : Nat} {L : List FIt} (h : Marked k0 its j L) (i : Nat) (hi : i < its.length) (hL : i < L.length) : L[i].2.1 = its[i].2.1 := by
  rcases Nat.lt_or_ge i j with h1 | h1
  · have := h.old i hi h1
    rw [List.getElem?_eq_getElem hL] at this
    rw [Option.some.inj this]
  · have := h.new i hi h1
    rw [List.getElem?_eq_getElem hL] at this
    rw [Option.some.inj this]
set_option maxHeartbeats 4000000 in
set_option maxRecDepth 100000 in
theorem markFunS_any (w : World) (B : Nat) (v : Value) (its : List FIt) (hv : FunsW 26 3 B w v its) (hp : its.Pairwise (fun t u => Apart t.2.1 u.2.1)) (hlen : its.length ≤ 65536) (h8 : ∀ t ∈ its, t.2.2.length ≤ 8) :
    Calls Try.prog 38 #[v, .int .i64 1] w fun e w' => ∃ L, e = .returned (.int .i64 (kAt 1 its its.length)) ∧ Marked 1 its its.length L ∧ FunsW 26 3 B w' v L ∧ GrownIn w w' (fun b => v.ownBlock = some b ∨ ∃ t ∈ its, t.2.1.ownBlock = some b) := by
  obtain ⟨a0, c0, rfl⟩ := hv.shape
  have hap : ∀ i j (hi : i < its.length) (hj : j < its.length), i ≠ j → Apart its[j].2.1 its[i].2.1 := fun i j hi hj hij => by
    rw [List.pairwise_iff_getElem] at hp
    rcases Nat.lt_or_gt_of_ne hij with h | h
    · exact (hp i j hi hj h).symm
    · exact hp j i hj hi h
  have hk := kAt_bd 1 its (by omega) h8
  have HAP := Lib.hid hap
  have HK := Lib.hid hk
  have H8 := Lib.hid h8
  have M0 := Marked.start 1 its
  clear hp hap hk h8
  go_enter Try.func38, Try.ntmps38
  go_wp2_with fail
  go_loopw [1, 5] (fun kk i wr => ∃ (j : Nat) (L : List FIt), j ≤ its.length ∧ i = .int .i64 j ∧ kk = .int .i64 (kAt 1 its j) ∧ Marked 1 its j L ∧ FunsW 26 3 B wr (.slice a0 its.length c0) L ∧ GrownIn w wr (fun b => (Value.slice a0 its.length c0).ownBlock = some b ∨ ∃ t ∈ its, t.2.1.ownBlock = some b)) (fun _ i _ => its.length - (intOf i).toNat)
  case atStart => exact ⟨0, its, Nat.zero_le _, rfl, rfl, M0, hv, GrownIn.refl _ _⟩
  case round =>
    obtain ⟨j, L, hj, rfl, rfl, M, f, g⟩ := hrel
    clear M0 hv
    have hkj := HK.out j hj
    by_cases hlt : j < its.length
    · have hjL : j < L.length := by rw [M.len]; exact hlt
      obtain ⟨a, b, c, hs, hix, hc, ha, hfz⟩ := f.view Try.prog 46 Try.underlying46 funElem
      rw [M.len] at hs hix
      injection hs with e1 e2 e3
      subst e1 e3
      have ha := ha j hjL
      subst ha
      have c1 := hc j hjL
      have i1 := fun W => hix W j hlt
      have fz := fun o => hfz j o hjL
      have hLj : L[j] = its[j] := by
        have := M.new j hlt (Nat.le_refl _)
        rw [List.getElem?_eq_getElem hjL] at this
        exact Option.some.inj this
      have oj := f.els _ (List.getElem_mem hjL)
      have hapj := f.apart fNe _ (List.getElem_mem hjL) b rfl
      have hl8 := H8.out _ (List.getElem_mem hlt)
      have hnext := M.next hlt
      have hk1 : kAt 1 its (j + 1) = kAt 1 its j + 1 + its[j].2.2.length := by rw [kAt, lenAt_is its j hlt]
      have hmk := fun (w2 : World) (ho : OwnW 3 0 w2 L[j].2.1 (ramp (kAt 1 its j + 1) its[j].2.2.length)) (hg : (wr.setCell ⟨b, 2 * j, none⟩ (.int .i64 (kAt 1 its j))).grownBy w2 L[j].2.1.ownBlock) => f.mark fNe j hjL (kAt 1 its j) ⟨by omega, by omega⟩ _ ho hg (fun i hi hij => by
        rw [M.at j hlt hjL, M.at i (by rw [← M.len]; exact hi) hi]
        exact HAP.out i j (by rw [← M.len]; exact hi) hlt hij)
      rw [hLj] at c1 oj hapj hmk
      have hin : ∀ q, its[j].2.1.ownBlock = some q → ∃ t ∈ its, t.2.1.ownBlock = some q := fun q e => ⟨_, List.getElem_mem hlt, e⟩
      have o1 := oj.2.grow (grown_setCell wr ⟨b, 2 * j, none⟩ (.int .i64 (kAt 1 its j))) (fun q hq => by have hq := Option.some.inj hq; rw [← hq]; exact hapj)
      obtain ⟨ar, cr, hrs⟩ := oj.2.shape
      obtain ⟨q, hq⟩ : ∃ q, q = 2 * j := ⟨_, rfl⟩
      obtain ⟨K, hK⟩ : ∃ q, q = kAt 1 its j := ⟨_, rfl⟩
      obtain ⟨R, hR⟩ : ∃ q, q = its[j].2.1 := ⟨_, rfl⟩
      obtain ⟨ll, hll⟩ : ∃ q, q = its[j].2.2.length := ⟨_, rfl⟩
      obtain ⟨l0, hl0⟩ : ∃ q, q = its[j].2.2 := ⟨_, rfl⟩
      obtain ⟨n0, hn0⟩ : ∃ q, q = its[j].1 := ⟨_, rfl⟩
      rw [← hl0] at hll o1 hrs
      rw [← hK, ← hl0, ← hll] at hk1
      rw [← hK, ← hR, ← hl0, ← hll] at hnext
      rw [← hR, ← hn0] at c1
      rw [← hR] at hrs o1 hapj hin
      simp only [← hq, ← hK, ← hR, ← hl0, ← hll] at hmk o1
      rw [← hq] at c1
      simp only [← hq] at i1
      rw [← hK] at hkj ⊢
      rw [← hl0, ← hll] at hl8
      clear hR
      subst hrs
      have HMK := Lib.hid hmk
      have HNX := Lib.hid hnext
      have HK1 := Lib.hid hk1
      have HIN := Lib.hid hin
      have HLL := Lib.hid hll
      have HG := Lib.hid g
      have hl8' : l0.length ≤ 8 := by omega
      have g1 := grown_setCell wr ⟨b, q, none⟩ (.int .i64 K)
      have HG1 := Lib.hid g1
      have HO1 := Lib.hid o1
      have hK0 := hkj.1
      have hKb := hkj.2
      have c10 := c1.1
      have c11 := c1.2
      have cq : (wr.setCell ⟨b, q, none⟩ (.int .i64 K)).cell? ⟨b, q + 1, none⟩ = some (.slice ar l0.length cr) := by
        rw [← c11]
        exact cell_setCell_off wr b q (q + 1) _ (by omega)
      clear hmk hnext hk1 hin hll g g1 o1 hq hK hl0 hn0 hc hix hfz oj hLj hapj c1 hl8 hkj f M hjL
      go_wp2_with (go_at_call 92; with_reducible refine (markIntS_any _ _ l0 0 HO1.out (K + 1) (by omega) (by omega) (by omega)).mono ?_; rintro e w2 ⟨rfl, o2, g2⟩)
      have F2 := HMK.out w2 (by rw [HLL.out]; exact o2) g2
      go_roundw
      case rel =>
        refine ⟨j + 1, _, by omega, by go_num, ?_, HNX.out, F2, ?_⟩
        · rw [HK1.out, HLL.out]
        · exact HG.out.trans ((GrownIn.of_row HG1.out (fun k hk => .inl hk)).trans (GrownIn.of_row g2 (fun k hk => .inr (HIN.out k hk))))
      case measure => simp [intOf]; omega
    · have hjl : j = its.length := by omega
      have HM := Lib.hid M
      have HF := Lib.hid f
      have HG := Lib.hid g
      have HJ := Lib.hid hjl
      clear M f g hjl
      go_wp2
      go_ret
      refine ⟨L, ret_int (by rw [HJ.out]), ?_, HF.out, HG.out⟩
      have := HM.out
      rw [HJ.out] at this
      exact this
set_option maxHeartbeats 4000000 in
set_option maxRecDepth 100000 in
theorem heldFunS_any (w : World) (B : Nat) (v : Value) (its L : List FIt) (M : Marked 1 its its.length L) (hv : FunsW 26 3 B w v L) (hlen : its.length ≤ 65536) (h8 : ∀ t ∈ its, t.2.2.length ≤ 8) :
    Calls Try.prog 39 #[v, .int .i64 1] w fun e w' => e = .returned (.int .i64 (kAt 1 its its.length)) ∧ Below w.heap.size w w' := by
  obtain ⟨a, b, c, rfl, hix, hc, ha, hfz⟩ := hv.view Try.prog 46 Try.underlying46 funElem
  rw [M.len] at hix ⊢
  have hk := kAt_bd 1 its (by omega) h8
  have HM := Lib.hid M
  have HK := Lib.hid hk
  have HC := Lib.hid hc
  have HIX := Lib.hid hix
  have H8 := Lib.hid h8
  have HV := Lib.hid hv
  clear M hk hc hix h8 ha hfz hv
  go_enter Try.func39, Try.ntmps39
  go_wp2_with fail
  go_loopw [1, 5] (fun kk i wr => ∃ j : Nat, j ≤ its.length ∧ i = .int .i64 j ∧ kk = .int .i64 (kAt 1 its j) ∧ Below w.heap.size w wr) (fun _ i _ => its.length - (intOf i).toNat)
  case atStart => exact ⟨0, Nat.zero_le _, rfl, rfl, Below.refl _ _⟩
  case round =>
    obtain ⟨j, hj, rfl, rfl, Bw⟩ := hrel
    have hkj := HK.out j hj
    by_cases hlt : j < its.length
    · have hjL : j < L.length := by rw [HM.out.len]; exact hlt
      have c1 := HC.out j hjL
      have i1 := fun W => HIX.out W j hlt
      have oj := (HV.out.els _ (List.getElem_mem hjL)).2.ints.keep Bw
      have hLj : L[j] = (kAt 1 its j, its[j].2.1, ramp (kAt 1 its j + 1) its[j].2.2.length) := by
        have := HM.out.old j hlt hlt
        rw [List.getElem?_eq_getElem hjL] at this
        exact Option.some.inj this
      rw [hLj] at c1 oj
      have hl8 := H8.out _ (List.getElem_mem hlt)
      have hk1 : kAt 1 its (j + 1) = kAt 1 its j + 1 + its[j].2.2.length := by rw [kAt, lenAt_is its j hlt]
      have c10 := keep Bw c1.1
      have c11 := keep Bw c1.2
      obtain ⟨ar, cr, hrs⟩ := oj.shape
      dsimp only at c10 c11 oj hrs
      obtain ⟨q, hq⟩ : ∃ q, q = 2 * j := ⟨_, rfl⟩
      obtain ⟨K, hK⟩ : ∃ q, q = kAt 1 its j := ⟨_, rfl⟩
      obtain ⟨R, hR⟩ : ∃ q, q = its[j].2.1 := ⟨_, rfl⟩
      obtain ⟨ll, hll⟩ : ∃ q, q = its[j].2.2.length := ⟨_, rfl⟩
      rw [← hK, ← hll] at hk1
      rw [← hK] at hkj ⊢
      rw [← hR, ← hK, ← hll] at oj hrs
      rw [← hR, ← hq] at c11
      rw [← hK, ← hq] at c10
      rw [← hll] at hl8
      simp only [← hq] at i1
      have HO := Lib.hid oj
      have HK1 := Lib.hid hk1
      have hK0 := hkj.1
      have hKb := hkj.2
      rw [ramp_len] at hrs
      clear hLj hq hK hR hll oj hk1 c1 hkj hjL
      subst hrs
      go_wp2_with (go_at_call 93; with_reducible refine (heldIntS_any _ _ (K + 1) ll HO.out (by omega) (by omega) (by omega)).mono ?_; rintro e w2 ⟨rfl, b2⟩)
      go_roundw
      case rel =>
        refine ⟨j + 1, by omega, by go_num, ?_, Bw.after b2 Bw.size⟩
        rw [HK1.out]
      case measure => simp [intOf]; omega
    · have hjl : j = its.length := by omega
      have HJ := Lib.hid hjl
      clear hjl
      go_wp2
      go_ret
      exact ⟨ret_int (by rw [HJ.out]), Bw⟩
end Go.Proofs.Ytmfenalnmpndmaa
