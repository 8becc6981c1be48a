/- Kernels and petals; uniform families. -/
import Derived.Test.YtmlpcohailjccaaSunV
namespace Go.Proofs.Ytmlpcohailjccaa
open Go.RowKit Go.G5

def kerB (l : List Int) : Bool := isSunB l && decide (2 ≤ l.length)
def kerN (l : List Int) : Int := if kerB l then iand (l.getD 0 0) (l.getD 1 0) else 0
def petTo (l : List Int) (q : Int) : Nat → List Int
  | 0 => []
  | k + 1 => petTo l q k ++ [idif (l.getD k 0) q]
def petL (l : List Int) : List Int := if kerB l then petTo l (kerN l) l.length else []
def uniB (g : Int) (l : List Int) (k : Int) : Bool := isFamB g l && (inB k 0 g && l.all fun s => ipop s == k)
theorem petTo_len (l : List Int) (q : Int) : ∀ k, (petTo l q k).length = k := by
  intro k
  induction k with
  | zero => rfl
  | succ k ih => rw [petTo, List.length_append, ih]; rfl
theorem sun_bd {l : List Int} (h : isSunB l = true) : l.length ≤ 64 ∧ ∀ x ∈ l, 0 ≤ x ∧ x < 64 := by
  unfold isSunB at h
  have := valS_mem (Bool.and_eq_true_iff.1 h).1
  exact ⟨this.1, this.2.1⟩
theorem kerN_bd {l : List Int} (h : kerB l = true) : 0 ≤ kerN l ∧ kerN l < 64 := by
  have hk : kerN l = iand (l.getD 0 0) (l.getD 1 0) := by unfold kerN; rw [h]; rfl
  unfold kerB at h
  obtain ⟨h1, h2⟩ := Bool.and_eq_true_iff.1 h
  have h2 := of_decide_eq_true h2
  have hb := (sun_bd h1).2 _ (List.getElem_mem (show 0 < l.length by omega))
  rw [hk, getD_at l 0 (by omega)]
  exact iand_bd _ _ 64 hb.1 hb.2

set_option maxHeartbeats 400000 in
theorem isSunS_any (l : List Int) (v : Value) (w : World) (hv : Ints w v l) :
    Calls Try.prog 40 #[v] w fun e w' => e = .returned (.bool (isSunB l)) ∧ Below w.heap.size w w' := by
  have HV := Lib.hid (l24Valid_any l v w hv)
  cases hvs : valS l with
  | false =>
    have hx : isSunB l = false := by unfold isSunB; rw [hvs]; rfl
    have HX := Lib.hid hx
    rw [hvs] at HV
    clear hx hvs
    go_enter Try.func40, Try.ntmps40
    go_wp2_with (go_at_call 103; refine HV.out.mono ?_; rintro e w1 ⟨rfl, b1⟩)
    go_ret
    exact ⟨ret_bool HX.out.symm, b1⟩
  | true =>
    have hx : isSunB l = sunS l := by unfold isSunB; rw [hvs]; rfl
    have hm := (valS_mem hvs).2.1
    have HX := Lib.hid hx
    rw [hvs] at HV
    have HS := Lib.hid (fun W (h : Below w.heap.size w W) => l24Sun_any l v W (hv.below h (Nat.le_refl _)) hm)
    clear hx hvs hm
    go_enter Try.func40, Try.ntmps40
    go_wp2_with (first | (go_at_call 103; refine HV.out.mono ?_; rintro e w1 ⟨rfl, b1⟩) | (go_at_call 104; refine (HS.out w1 b1).mono ?_; rintro e w2 ⟨rfl, b2⟩))
    go_ret
    exact ⟨ret_bool HX.out.symm, b1.after b2 b1.size⟩
set_option maxHeartbeats 1000000 in
set_option maxRecDepth 100000 in
theorem kernelI_any (l : List Int) (v : Value) (w : World) (hv : Ints w v l) :
    Calls Try.prog 31 #[v] w fun e w' => e = .returned (.tuple #[.int .i64 (kerN l), .bool (kerB l)]) ∧ Below w.heap.size w w' := by
  have HS := Lib.hid (isSunI_any l v w hv)
  obtain ⟨a, b, off, c, rfl, hlen, hix, hc, hb⟩ := hv.view Try.prog 22 3 Try.underlying22 intElem
  by_cases h2 : 2 ≤ l.length
  · have h2i : ¬ (l.length : Int) < 2 := by omega
    cases hs : isSunB l with
    | false =>
      have hx : kerB l = false := by unfold kerB; rw [hs]; rfl
      have hy : kerN l = 0 := by unfold kerN; rw [hx]; rfl
      have HX := Lib.hid (And.intro hx hy)
      rw [hs] at HS
      clear hx hy hs
      go_enter Try.func31, Try.ntmps31
      go_wp2_with (go_at_call 29; refine HS.out.mono ?_; rintro e w1 ⟨rfl, b1⟩)
      go_ret2
      exact ⟨by rw [HX.out.1, HX.out.2]; rfl, b1⟩
    | true =>
      rw [hs] at HS
      have hx : kerB l = true := by unfold kerB; rw [hs, decide_eq_true h2]; rfl
      have hy : kerN l = iand (l.getD 0 0) (l.getD 1 0) := by unfold kerN; rw [hx]; rfl
      have hb0 := (sun_bd hs).2 _ (List.getElem_mem (show 0 < l.length by omega))
      have hb1 := (sun_bd hs).2 _ (List.getElem_mem (show 1 < l.length by omega))
      rw [getD_at l 0 (by omega), getD_at l 1 (by omega)] at hy
      have c0 : ∀ W, Below w.heap.size w W → W.cell? ⟨b, off, none⟩ = some (.int .i64 (l[0]'(by omega))) := fun W h => cells_below hc hb h (Nat.le_refl _) 0 (by omega)
      have c1 : ∀ W, Below w.heap.size w W → W.cell? ⟨b, off + 1, none⟩ = some (.int .i64 (l[1]'(by omega))) := fun W h => cells_below hc hb h (Nat.le_refl _) 1 (by omega)
      have i0 : ∀ W, (Instr.indexAt 22 (.slice a l.length c) (.int .i64 0)).run Try.prog W = .ok (.pointer (some ⟨b, off, none⟩)) W := fun W => hix W 0 (by omega)
      have i1 : ∀ W, (Instr.indexAt 22 (.slice a l.length c) (.int .i64 1)).run Try.prog W = .ok (.pointer (some ⟨b, off + 1, none⟩)) W := fun W => hix W 1 (by omega)
      obtain ⟨p, hp⟩ : ∃ p, p = l[0]'(by omega) := ⟨_, rfl⟩
      obtain ⟨q, hq⟩ : ∃ q, q = l[1]'(by omega) := ⟨_, rfl⟩
      simp only [← hp] at c0
      simp only [← hq] at c1
      rw [← hp, ← hq] at hy
      rw [← hp] at hb0
      rw [← hq] at hb1
      have hia := iand_is hb0.1 (show p < 4611686018427387904 by omega) hb1.1 (show q < 4611686018427387904 by omega)
      have HX := Lib.hid (And.intro hx hy)
      have HC0 := Lib.hid c0
      have HC1 := Lib.hid c1
      clear hx hy hp hq c0 c1 hc hix hs
      go_enter Try.func31, Try.ntmps31
      go_wp2_with (go_at_call 29; refine HS.out.mono ?_; rintro e w1 ⟨rfl, b1⟩; have c0 := HC0.out w1 b1; have c1 := HC1.out w1 b1)
      go_quiet (fail)
      go_wp2
      go_ret2
      exact ⟨by rw [HX.out.1, HX.out.2]; rfl, b1.drewN' _⟩
  · have h2i : (l.length : Int) < 2 := by omega
    have hx : kerB l = false := by unfold kerB; rw [decide_eq_false h2]; simp
    have hy : kerN l = 0 := by unfold kerN; rw [hx]; rfl
    have HX := Lib.hid (And.intro hx hy)
    clear hx hy
    go_enter Try.func31, Try.ntmps31
    go_wp2
    go_ret2
    exact ⟨by rw [HX.out.1, HX.out.2]; rfl, Below.refl _ _⟩
set_option maxHeartbeats 1000000 in
set_option maxRecDepth 100000 in
theorem kernelS_any (l : List Int) (v : Value) (w : World) (hv : Ints w v l) :
    Calls Try.prog 35 #[v] w fun e w' => e = .returned (.tuple #[.int .i64 (kerN l), .bool (kerB l)]) ∧ Below w.heap.size w w' := by
  have HS := Lib.hid (isSunS_any l v w hv)
  obtain ⟨a, b, off, c, rfl, hlen, hix, hc, hb⟩ := hv.view Try.prog 22 3 Try.underlying22 intElem
  cases hs : isSunB l with
  | false =>
    have hx : kerB l = false := by unfold kerB; rw [hs]; rfl
    have hy : kerN l = 0 := by unfold kerN; rw [hx]; rfl
    have HX := Lib.hid (And.intro hx hy)
    rw [hs] at HS
    clear hx hy hs
    go_enter Try.func35, Try.ntmps35
    go_wp2_with (go_at_call 40; refine HS.out.mono ?_; rintro e w1 ⟨rfl, b1⟩)
    go_ret2
    exact ⟨by rw [HX.out.1, HX.out.2]; rfl, b1⟩
  | true =>
    rw [hs] at HS
    by_cases h2 : 2 ≤ l.length
    · have h2i : ¬ (l.length : Int) < 2 := by omega
      have hx : kerB l = true := by unfold kerB; rw [hs, decide_eq_true h2]; rfl
      have hy : kerN l = iand (l.getD 0 0) (l.getD 1 0) := by unfold kerN; rw [hx]; rfl
      have hb0 := (sun_bd hs).2 _ (List.getElem_mem (show 0 < l.length by omega))
      have hb1 := (sun_bd hs).2 _ (List.getElem_mem (show 1 < l.length by omega))
      rw [getD_at l 0 (by omega), getD_at l 1 (by omega)] at hy
      have c0 : ∀ W, Below w.heap.size w W → W.cell? ⟨b, off, none⟩ = some (.int .i64 (l[0]'(by omega))) := fun W h => cells_below hc hb h (Nat.le_refl _) 0 (by omega)
      have c1 : ∀ W, Below w.heap.size w W → W.cell? ⟨b, off + 1, none⟩ = some (.int .i64 (l[1]'(by omega))) := fun W h => cells_below hc hb h (Nat.le_refl _) 1 (by omega)
      have i0 : ∀ W, (Instr.indexAt 22 (.slice a l.length c) (.int .i64 0)).run Try.prog W = .ok (.pointer (some ⟨b, off, none⟩)) W := fun W => hix W 0 (by omega)
      have i1 : ∀ W, (Instr.indexAt 22 (.slice a l.length c) (.int .i64 1)).run Try.prog W = .ok (.pointer (some ⟨b, off + 1, none⟩)) W := fun W => hix W 1 (by omega)
      obtain ⟨p, hp⟩ : ∃ p, p = l[0]'(by omega) := ⟨_, rfl⟩
      obtain ⟨q, hq⟩ : ∃ q, q = l[1]'(by omega) := ⟨_, rfl⟩
      simp only [← hp] at c0
      simp only [← hq] at c1
      rw [← hp, ← hq] at hy
      rw [← hp] at hb0
      rw [← hq] at hb1
      have hia := iand_is hb0.1 (show p < 4611686018427387904 by omega) hb1.1 (show q < 4611686018427387904 by omega)
      have HX := Lib.hid (And.intro hx hy)
      have HC0 := Lib.hid c0
      have HC1 := Lib.hid c1
      clear hx hy hp hq c0 c1 hc hix hs
      go_enter Try.func35, Try.ntmps35
      go_wp2_with (go_at_call 40; refine HS.out.mono ?_; rintro e w1 ⟨rfl, b1⟩; have c0 := HC0.out w1 b1; have c1 := HC1.out w1 b1)
      go_quiet (fail)
      go_wp2
      go_ret2
      exact ⟨by rw [HX.out.1, HX.out.2]; rfl, b1.drewN' _⟩
    · have h2i : (l.length : Int) < 2 := by omega
      have hx : kerB l = false := by unfold kerB; rw [decide_eq_false h2]; simp
      have hy : kerN l = 0 := by unfold kerN; rw [hx]; rfl
      have HX := Lib.hid (And.intro hx hy)
      clear hx hy hs
      go_enter Try.func35, Try.ntmps35
      go_wp2_with (go_at_call 40; refine HS.out.mono ?_; rintro e w1 ⟨rfl, b1⟩)
      go_ret2
      exact ⟨by rw [HX.out.1, HX.out.2]; rfl, b1⟩
end Go.Proofs.Ytmlpcohailjccaa
