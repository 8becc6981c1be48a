/- Kernels and petals; uniform families. The line of orders: what is computed. -/
import Derived.Test.YtelmokapdkepbaaDoorQ28
section
namespace Go.Proofs.YtelmokapdkepbaaDoor
open Go.RowKit Go.G5

def kerB (l : List Int) : Bool := isSunB l && decide (2 ≤ l.length)
def kerN (l : List Int) : Int := if kerB l then iand (l.getD 0 0) (l.getD 1 0) else 0
def petTo (l : List Int) (q : Int) : Nat → List Int
  | 0 => []
  | k + 1 => petTo l q k ++ [idif (l.getD k 0) q]
def petL (l : List Int) : List Int := if kerB l then petTo l (kerN l) l.length else []
def uniB (g : Int) (l : List Int) (k : Int) : Bool := isFamB g l && (inB k 0 g && l.all fun s => ipop s == k)
theorem petTo_len (l : List Int) (q : Int) : ∀ k, (petTo l q k).length = k := by
  intro k
  induction k with
  | zero => rfl
  | succ k ih => rw [petTo, List.length_append, ih]; rfl
theorem sun_bd {l : List Int} (h : isSunB l = true) : l.length ≤ 64 ∧ ∀ x ∈ l, 0 ≤ x ∧ x < 64 := by
  unfold isSunB at h
  have := valS_mem (Bool.and_eq_true_iff.1 h).1
  exact ⟨this.1, this.2.1⟩
theorem kerN_bd {l : List Int} (h : kerB l = true) : 0 ≤ kerN l ∧ kerN l < 64 := by
  have hk : kerN l = iand (l.getD 0 0) (l.getD 1 0) := by unfold kerN; rw [h]; rfl
  unfold kerB at h
  obtain ⟨h1, h2⟩ := Bool.and_eq_true_iff.1 h
  have h2 := of_decide_eq_true h2
  have hb := (sun_bd h1).2 _ (List.getElem_mem (show 0 < l.length by omega))
  rw [hk, getD_at l 0 (by omega)]
  exact iand_bd _ _ 64 hb.1 hb.2

set_option maxHeartbeats 400000 in
theorem isSunS_any (l : List Int) (v : Value) (w : World) (hv : Ints w v l) :
    Calls Tryd.prog 44 #[v] w fun e w' => e = .returned (.bool (isSunB l)) ∧ Below w.heap.size w w' := by
  have HV := Lib.hid (l24Valid_any l v w hv)
  cases hvs : valS l with
  | false =>
    have hx : isSunB l = false := by unfold isSunB; rw [hvs]; rfl
    have HX := Lib.hid hx
    rw [hvs] at HV
    clear hx hvs
    go_enter Tryd.func44, Tryd.ntmps44
    go_wp2_with (go_at_call 66; refine HV.out.mono ?_; rintro e w1 ⟨rfl, b1⟩)
    go_ret
    exact ⟨ret_bool HX.out.symm, b1⟩
  | true =>
    have hx : isSunB l = sunS l := by unfold isSunB; rw [hvs]; rfl
    have hm := (valS_mem hvs).2.1
    have HX := Lib.hid hx
    rw [hvs] at HV
    have HS := Lib.hid (fun W (h : Below w.heap.size w W) => l24Sun_any l v W (hv.below h (Nat.le_refl _)) hm)
    clear hx hvs hm
    go_enter Tryd.func44, Tryd.ntmps44
    go_wp2_with (first | (go_at_call 66; refine HV.out.mono ?_; rintro e w1 ⟨rfl, b1⟩) | (go_at_call 65; refine (HS.out w1 b1).mono ?_; rintro e w2 ⟨rfl, b2⟩))
    go_ret
    exact ⟨ret_bool HX.out.symm, b1.after b2 b1.size⟩
set_option maxHeartbeats 1000000 in
set_option maxRecDepth 100000 in
theorem kernelI_any (l : List Int) (v : Value) (w : World) (hv : Ints w v l) :
    Calls Tryd.prog 32 #[v] w fun e w' => e = .returned (.tuple #[.int .i64 (kerN l), .bool (kerB l)]) ∧ Below w.heap.size w w' := by
  have HS := Lib.hid (isSunI_any l v w hv)
  obtain ⟨a, b, off, c, rfl, hlen, hix, hc, hb⟩ := hv.view Tryd.prog 22 3 Tryd.underlying22 intElem
  by_cases h2 : 2 ≤ l.length
  · have h2i : ¬ (l.length : Int) < 2 := by omega
    cases hs : isSunB l with
    | false =>
      have hx : kerB l = false := by unfold kerB; rw [hs]; rfl
      have hy : kerN l = 0 := by unfold kerN; rw [hx]; rfl
      have HX := Lib.hid (And.intro hx hy)
      rw [hs] at HS
      clear hx hy hs
      go_enter Tryd.func32, Tryd.ntmps32
      go_wp2_with (go_at_call 60; refine HS.out.mono ?_; rintro e w1 ⟨rfl, b1⟩)
      go_ret2
      exact ⟨by rw [HX.out.1, HX.out.2]; rfl, b1⟩
    | true =>
      rw [hs] at HS
      have hx : kerB l = true := by unfold kerB; rw [hs, decide_eq_true h2]; rfl
      have hy : kerN l = iand (l.getD 0 0) (l.getD 1 0) := by unfold kerN; rw [hx]; rfl
      have hb0 := (sun_bd hs).2 _ (List.getElem_mem (show 0 < l.length by omega))
      have hb1 := (sun_bd hs).2 _ (List.getElem_mem (show 1 < l.length by omega))
      rw [getD_at l 0 (by omega), getD_at l 1 (by omega)] at hy
      have c0 : ∀ W, Below w.heap.size w W → W.cell? ⟨b, off, none⟩ = some (.int .i64 (l[0]'(by omega))) := fun W h => cells_below hc hb h (Nat.le_refl _) 0 (by omega)
      have c1 : ∀ W, Below w.heap.size w W → W.cell? ⟨b, off + 1, none⟩ = some (.int .i64 (l[1]'(by omega))) := fun W h => cells_below hc hb h (Nat.le_refl _) 1 (by omega)
      have i0 : ∀ W, (Instr.indexAt 22 (.slice a l.length c) (.int .i64 0)).run Tryd.prog W = .ok (.pointer (some ⟨b, off, none⟩)) W := fun W => hix W 0 (by omega)
      have i1 : ∀ W, (Instr.indexAt 22 (.slice a l.length c) (.int .i64 1)).run Tryd.prog W = .ok (.pointer (some ⟨b, off + 1, none⟩)) W := fun W => hix W 1 (by omega)
      obtain ⟨p, hp⟩ : ∃ p, p = l[0]'(by omega) := ⟨_, rfl⟩
      obtain ⟨q, hq⟩ : ∃ q, q = l[1]'(by omega) := ⟨_, rfl⟩
      simp only [← hp] at c0
      simp only [← hq] at c1
      rw [← hp, ← hq] at hy
      rw [← hp] at hb0
      rw [← hq] at hb1
      have hia := iand_is hb0.1 (show p < 4611686018427387904 by omega) hb1.1 (show q < 4611686018427387904 by omega)
      have HX := Lib.hid (And.intro hx hy)
      have HC0 := Lib.hid c0
      have HC1 := Lib.hid c1
      clear hx hy hp hq c0 c1 hc hix hs
      go_enter Tryd.func32, Tryd.ntmps32
      go_wp2_with (go_at_call 60; refine HS.out.mono ?_; rintro e w1 ⟨rfl, b1⟩; have c0 := HC0.out w1 b1; have c1 := HC1.out w1 b1)
      go_quiet (fail)
      go_wp2
      go_ret2
      exact ⟨by rw [HX.out.1, HX.out.2]; rfl, b1.drewN' _⟩
  · have h2i : (l.length : Int) < 2 := by omega
    have hx : kerB l = false := by unfold kerB; rw [decide_eq_false h2]; simp
    have hy : kerN l = 0 := by unfold kerN; rw [hx]; rfl
    have HX := Lib.hid (And.intro hx hy)
    clear hx hy
    go_enter Tryd.func32, Tryd.ntmps32
    go_wp2
    go_ret2
    exact ⟨by rw [HX.out.1, HX.out.2]; rfl, Below.refl _ _⟩
set_option maxHeartbeats 1000000 in
set_option maxRecDepth 100000 in
theorem kernelS_any (l : List Int) (v : Value) (w : World) (hv : Ints w v l) :
    Calls Tryd.prog 19 #[v] w fun e w' => e = .returned (.tuple #[.int .i64 (kerN l), .bool (kerB l)]) ∧ Below w.heap.size w w' := by
  have HS := Lib.hid (isSunS_any l v w hv)
  obtain ⟨a, b, off, c, rfl, hlen, hix, hc, hb⟩ := hv.view Tryd.prog 22 3 Tryd.underlying22 intElem
  cases hs : isSunB l with
  | false =>
    have hx : kerB l = false := by unfold kerB; rw [hs]; rfl
    have hy : kerN l = 0 := by unfold kerN; rw [hx]; rfl
    have HX := Lib.hid (And.intro hx hy)
    rw [hs] at HS
    clear hx hy hs
    go_enter Tryd.func19, Tryd.ntmps19
    go_wp2_with (go_at_call 44; refine HS.out.mono ?_; rintro e w1 ⟨rfl, b1⟩)
    go_ret2
    exact ⟨by rw [HX.out.1, HX.out.2]; rfl, b1⟩
  | true =>
    rw [hs] at HS
    by_cases h2 : 2 ≤ l.length
    · have h2i : ¬ (l.length : Int) < 2 := by omega
      have hx : kerB l = true := by unfold kerB; rw [hs, decide_eq_true h2]; rfl
      have hy : kerN l = iand (l.getD 0 0) (l.getD 1 0) := by unfold kerN; rw [hx]; rfl
      have hb0 := (sun_bd hs).2 _ (List.getElem_mem (show 0 < l.length by omega))
      have hb1 := (sun_bd hs).2 _ (List.getElem_mem (show 1 < l.length by omega))
      rw [getD_at l 0 (by omega), getD_at l 1 (by omega)] at hy
      have c0 : ∀ W, Below w.heap.size w W → W.cell? ⟨b, off, none⟩ = some (.int .i64 (l[0]'(by omega))) := fun W h => cells_below hc hb h (Nat.le_refl _) 0 (by omega)
      have c1 : ∀ W, Below w.heap.size w W → W.cell? ⟨b, off + 1, none⟩ = some (.int .i64 (l[1]'(by omega))) := fun W h => cells_below hc hb h (Nat.le_refl _) 1 (by omega)
      have i0 : ∀ W, (Instr.indexAt 22 (.slice a l.length c) (.int .i64 0)).run Tryd.prog W = .ok (.pointer (some ⟨b, off, none⟩)) W := fun W => hix W 0 (by omega)
      have i1 : ∀ W, (Instr.indexAt 22 (.slice a l.length c) (.int .i64 1)).run Tryd.prog W = .ok (.pointer (some ⟨b, off + 1, none⟩)) W := fun W => hix W 1 (by omega)
      obtain ⟨p, hp⟩ : ∃ p, p = l[0]'(by omega) := ⟨_, rfl⟩
      obtain ⟨q, hq⟩ : ∃ q, q = l[1]'(by omega) := ⟨_, rfl⟩
      simp only [← hp] at c0
      simp only [← hq] at c1
      rw [← hp, ← hq] at hy
      rw [← hp] at hb0
      rw [← hq] at hb1
      have hia := iand_is hb0.1 (show p < 4611686018427387904 by omega) hb1.1 (show q < 4611686018427387904 by omega)
      have HX := Lib.hid (And.intro hx hy)
      have HC0 := Lib.hid c0
      have HC1 := Lib.hid c1
      clear hx hy hp hq c0 c1 hc hix hs
      go_enter Tryd.func19, Tryd.ntmps19
      go_wp2_with (go_at_call 44; refine HS.out.mono ?_; rintro e w1 ⟨rfl, b1⟩; have c0 := HC0.out w1 b1; have c1 := HC1.out w1 b1)
      go_quiet (fail)
      go_wp2
      go_ret2
      exact ⟨by rw [HX.out.1, HX.out.2]; rfl, b1.drewN' _⟩
    · have h2i : (l.length : Int) < 2 := by omega
      have hx : kerB l = false := by unfold kerB; rw [decide_eq_false h2]; simp
      have hy : kerN l = 0 := by unfold kerN; rw [hx]; rfl
      have HX := Lib.hid (And.intro hx hy)
      clear hx hy hs
      go_enter Tryd.func19, Tryd.ntmps19
      go_wp2_with (go_at_call 44; refine HS.out.mono ?_; rintro e w1 ⟨rfl, b1⟩)
      go_ret2
      exact ⟨by rw [HX.out.1, HX.out.2]; rfl, b1⟩
end Go.Proofs.YtelmokapdkepbaaDoor
end
section
namespace Go.Proofs.YtelmokapdkepbaaDoor
open Go.RowKit Go.G5

def olA (N M : ByteArray) : List ByteArray := [(⟨#[111, 114, 100, 101, 114]⟩ : ByteArray), (⟨#[99, 104, 97, 105, 110]⟩ : ByteArray), N, (⟨#[108, 101, 118, 101, 108, 115]⟩ : ByteArray), M]
def olAT (N M : ByteArray) : ByteArray := (⟨#[111, 114, 100, 101, 114, 32, 99, 104, 97, 105, 110, 32]⟩ : ByteArray) ++ N ++ (⟨#[32, 108, 101, 118, 101, 108, 115, 32]⟩ : ByteArray) ++ M
theorem olA_is (N M : ByteArray) : joinB space (olA N M) = olAT N M := by
  unfold olA olAT
  simp only [joinB_cons2, joinB_one]
  refine ba_ext ?_
  simp [space]
theorem olAT_size (N M : ByteArray) (h1 : N.size ≤ 21) (h2 : M.size ≤ 21) : (olAT N M).size ≤ 100 := by
  unfold olAT
  simp only [ByteArray.size_append]
  have e1 : (⟨#[111, 114, 100, 101, 114, 32, 99, 104, 97, 105, 110, 32]⟩ : ByteArray).size = 12 := rfl
  have e2 : (⟨#[32, 108, 101, 118, 101, 108, 115, 32]⟩ : ByteArray).size = 8 := rfl
  omega
/-- one more part -/
def olB (W : ByteArray) (b : Bool) (N : ByteArray) : List ByteArray := if b then [W, N] else []
def olBT (W : ByteArray) (b : Bool) (X N : ByteArray) : ByteArray := if b then X ++ (space ++ W ++ space) ++ N else X
theorem olB_is (W : ByteArray) (b : Bool) (X N : ByteArray) : X ++ tailB (olB W b N) = olBT W b X N := by
  cases b with
  | false => exact ba_ext (by rw [ba_app]; show X.data.toList ++ [] = X.data.toList; simp)
  | true =>
    refine ba_ext ?_
    simp [olB, olBT, tailB, space]
theorem olBT_size (W : ByteArray) (b : Bool) (X N : ByteArray) (k m : Nat) (hW : W.size ≤ 20) (hX : X.size ≤ k) (hN : N.size ≤ m) : (olBT W b X N).size ≤ k + m + 22 := by
  cases b with
  | false => show X.size ≤ _; omega
  | true =>
    unfold olBT
    rw [if_pos rfl]
    simp only [ByteArray.size_append]
    have e1 : space.size = 1 := rfl
    omega
theorem sp_antichain : space ++ (⟨#[97, 110, 116, 105, 99, 104, 97, 105, 110]⟩ : ByteArray) ++ space = (⟨#[32, 97, 110, 116, 105, 99, 104, 97, 105, 110, 32]⟩ : ByteArray) := rfl
theorem sp_intervals : space ++ (⟨#[105, 110, 116, 101, 114, 118, 97, 108, 115]⟩ : ByteArray) ++ space = (⟨#[32, 105, 110, 116, 101, 114, 118, 97, 108, 115, 32]⟩ : ByteArray) := rfl
theorem sp_sunflower : space ++ (⟨#[115, 117, 110, 102, 108, 111, 119, 101, 114]⟩ : ByteArray) ++ space = (⟨#[32, 115, 117, 110, 102, 108, 111, 119, 101, 114, 32]⟩ : ByteArray) := rfl
def olL (g : Int) (l : List Int) : List ByteArray := ((olA (itoaB ((chL g l).length : Int)) (itoaB ((levels g l).length : Int)) ++ olB (⟨#[97, 110, 116, 105, 99, 104, 97, 105, 110]⟩ : ByteArray) (laB g l) (famTx g (laL g l))) ++ olB (⟨#[105, 110, 116, 101, 114, 118, 97, 108, 115]⟩ : ByteArray) (ivB g l) (numB (ivL g l))) ++ olB (⟨#[115, 117, 110, 102, 108, 111, 119, 101, 114]⟩ : ByteArray) (sunB g l 3) (setTx g (kerN (sunL g l 3)))
def olT1 (g : Int) (l : List Int) : ByteArray := olAT (itoaB ((chL g l).length : Int)) (itoaB ((levels g l).length : Int))
def olT2 (g : Int) (l : List Int) : ByteArray := olBT (⟨#[97, 110, 116, 105, 99, 104, 97, 105, 110]⟩ : ByteArray) (laB g l) (olT1 g l) (famTx g (laL g l))
def olT3 (g : Int) (l : List Int) : ByteArray := olBT (⟨#[105, 110, 116, 101, 114, 118, 97, 108, 115]⟩ : ByteArray) (ivB g l) (olT2 g l) (numB (ivL g l))
def olT (g : Int) (l : List Int) : ByteArray := olBT (⟨#[115, 117, 110, 102, 108, 111, 119, 101, 114]⟩ : ByteArray) (sunB g l 3) (olT3 g l) (setTx g (kerN (sunL g l 3)))
theorem ol_is (g : Int) (l : List Int) : joinB space (olL g l) = olT g l := by
  unfold olL olT olT3 olT2 olT1
  rw [join_app _ _ (by simp [olA]), join_app _ _ (by simp [olA]), join_app _ _ (by simp [olA]), olA_is, olB_is, olB_is, olB_is]
def olLn (g : Int) (l : List Int) : ByteArray := if isFamB g l then olT g l else ByteArray.empty
theorem olLn_yes {g : Int} {l : List Int} (h : isFamB g l = true) : olLn g l = olT g l := by unfold olLn; rw [if_pos h]
theorem olLn_no {g : Int} {l : List Int} (h : isFamB g l = false) : olLn g l = ByteArray.empty := by unfold olLn; rw [h]; rfl
theorem olT1_size (g : Int) (l : List Int) : (olT1 g l).size ≤ 100 := by
  have h1 := chL_len g l
  have h2 := levels_len g l
  exact olAT_size _ _ (itoaB_size _ ⟨by omega, by omega⟩) (itoaB_size _ ⟨by omega, by omega⟩)
theorem olT2_size (g : Int) (l : List Int) : (olT2 g l).size ≤ 10130 := Nat.le_trans (olBT_size (⟨#[97, 110, 116, 105, 99, 104, 97, 105, 110]⟩ : ByteArray) _ _ _ 100 10000 (by decide) (olT1_size g l) (famTx_size _ _)) (by decide)
theorem ivNum_size (g : Int) (l : List Int) : (numB (ivL g l)).size ≤ 200 := by
  have h := ivL_facts g l
  have h2 := numB_size (ivL g l) (fun x hx => by have := h.2 x hx; exact ⟨by omega, by omega⟩)
  omega
theorem olT3_size (g : Int) (l : List Int) : (olT3 g l).size ≤ 10400 := Nat.le_trans (olBT_size (⟨#[105, 110, 116, 101, 114, 118, 97, 108, 115]⟩ : ByteArray) _ _ _ 10130 200 (by decide) (olT2_size g l) (ivNum_size g l)) (by decide)
theorem olT_size (g : Int) (l : List Int) : (olT g l).size ≤ 10700 := Nat.le_trans (olBT_size (⟨#[115, 117, 110, 102, 108, 111, 119, 101, 114]⟩ : ByteArray) _ _ _ 10400 132 (by decide) (olT3_size g l) (setTx_size _ _)) (by decide)
end Go.Proofs.YtelmokapdkepbaaDoor
end
