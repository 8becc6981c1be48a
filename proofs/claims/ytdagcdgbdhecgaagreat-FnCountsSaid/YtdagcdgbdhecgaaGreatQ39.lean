/- Counts and matroids of few elements: the facts that the law asks for. Draws: numbers below a bound, picks, a new cursor. Counts and matroids of few elements: what the law draws and looks at. -/
import Derived.Test.YtdagcdgbdhecgaaGreatQ38
section
namespace Go.Proofs.YtdagcdgbdhecgaaGreat
open Go.RowKit Go.G5

/-- each of the lists is a rank, and its dual is one of them -/
def duOk (n : Nat) (L : List (List Int)) : Bool := L.all fun l => rankB n l && (isFunB n (duL (onesL n) l) && decide (duL (onesL n) l ∈ L))
def onceB : List (List Int) → Bool
  | [] => true
  | l :: L => decide (l ∉ L) && onceB L
theorem mat_0 : matL 0 = [[0]] := by decide +kernel
theorem mat_1 : matL 1 = [[0, 0], [0, 1]] := by decide +kernel
theorem mat_2 : matL 2 = [[0, 0, 0, 0], [0, 0, 1, 1], [0, 1, 0, 1], [0, 1, 1, 1], [0, 1, 1, 2]] := by decide +kernel
theorem mat_3 : matL 3 = [[0, 0, 0, 0, 0, 0, 0, 0], [0, 0, 0, 0, 1, 1, 1, 1], [0, 0, 1, 1, 0, 0, 1, 1], [0, 0, 1, 1, 1, 1, 1, 1], [0, 0, 1, 1, 1, 1, 2, 2], [0, 1, 0, 1, 0, 1, 0, 1], [0, 1, 0, 1, 1, 1, 1, 1], [0, 1, 0, 1, 1, 2, 1, 2], [0, 1, 1, 1, 0, 1, 1, 1], [0, 1, 1, 1, 1, 1, 1, 1], [0, 1, 1, 1, 1, 2, 2, 2], [0, 1, 1, 2, 0, 1, 1, 2], [0, 1, 1, 2, 1, 1, 2, 2], [0, 1, 1, 2, 1, 2, 1, 2], [0, 1, 1, 2, 1, 2, 2, 2], [0, 1, 1, 2, 1, 2, 2, 3]] := by decide +kernel
structure MatFacts (n : Nat) (L : List (List Int)) : Prop where
  rank : ∀ l ∈ L, rankB n l = true
  made : ∀ l ∈ L, isFunB n (duL (onesL n) l) = true
  dual : ∀ l ∈ L, duL (onesL n) l ∈ L
  once : ∀ (i k : Nat) (hi : i < L.length) (hk : k < L.length), k < i → L[k] ≠ L[i]
theorem once_of : ∀ L : List (List Int), onceB L = true → ∀ (i k : Nat) (hi : i < L.length) (hk : k < L.length), k < i → L[k] ≠ L[i] := by
  intro L
  induction L with
  | nil => intro _ i k hi; simp at hi
  | cons a L ih =>
    intro h i k hi hk hki
    rw [onceB, Bool.and_eq_true, decide_eq_true_eq] at h
    obtain ⟨i, rfl⟩ : ∃ j, i = j + 1 := ⟨i - 1, by omega⟩
    rw [List.getElem_cons_succ]
    cases k with
    | zero => intro e; rw [List.getElem_cons_zero] at e; exact h.1 (e ▸ List.getElem_mem _)
    | succ k => rw [List.getElem_cons_succ]; exact ih h.2 i k _ _ (by omega)
theorem matFacts_of (n : Nat) (L : List (List Int)) (h : (duOk n L && onceB L) = true) : MatFacts n L := by
  rw [Bool.and_eq_true] at h
  obtain ⟨h1, h2⟩ := h
  unfold duOk at h1
  rw [List.all_eq_true] at h1
  have h3 : ∀ l ∈ L, rankB n l = true ∧ isFunB n (duL (onesL n) l) = true ∧ duL (onesL n) l ∈ L := fun l hl => by
    have := h1 l hl
    simp only [Bool.and_eq_true, decide_eq_true_eq] at this
    exact this
  exact ⟨fun l hl => (h3 l hl).1, fun l hl => (h3 l hl).2.1, fun l hl => (h3 l hl).2.2, once_of L h2⟩
theorem matFacts (n : Int) (h : inB n 0 3 = true) : ∃ N : Nat, n = N ∧ N ≤ 3 ∧ MatFacts N (matL n) := by
  rcases in03 h with rfl | rfl | rfl | rfl
  · exact ⟨0, rfl, by omega, matFacts_of 0 _ (by rw [mat_0]; decide +kernel)⟩
  · exact ⟨1, rfl, by omega, matFacts_of 1 _ (by rw [mat_1]; decide +kernel)⟩
  · exact ⟨2, rfl, by omega, matFacts_of 2 _ (by rw [mat_2]; decide +kernel)⟩
  · exact ⟨3, rfl, by omega, matFacts_of 3 _ (by rw [mat_3]; decide +kernel)⟩
/-- what the law says of the counts -/
def tabA : List Int := [1, 2, 5, 16]
def tabB : List Int := [2, 3, 6, 20]
def tabD : List Int := [1, 2, 6, 40]
structure CntFacts (n : Nat) : Prop where
  a : cntM n = ((matL n).length : Int) ∧ cntM n = tabA.getD n 0
  b : cntOf qAntiI n = tabB.getD n 0
  e : cntOf qDown n = tabB.getD n 0
  d : cntOf qInterI n = tabD.getD n 0
theorem cntFacts (n : Nat) (h : n ≤ 3) : CntFacts n := by
  have hc : n = 0 ∨ n = 1 ∨ n = 2 ∨ n = 3 := by omega
  rcases hc with rfl | rfl | rfl | rfl
  · exact ⟨⟨by decide +kernel, by decide +kernel⟩, by decide +kernel, by decide +kernel, by decide +kernel⟩
  · exact ⟨⟨by decide +kernel, by decide +kernel⟩, by decide +kernel, by decide +kernel, by decide +kernel⟩
  · exact ⟨⟨by decide +kernel, by decide +kernel⟩, by decide +kernel, by decide +kernel, by decide +kernel⟩
  · exact ⟨⟨by decide +kernel, by decide +kernel⟩, by decide +kernel, by decide +kernel, by decide +kernel⟩
end Go.Proofs.YtdagcdgbdhecgaaGreat
end
section
namespace Go.Proofs.YtdagcdgbdhecgaaGreat
open Go.RowKit Go.G5

set_option maxHeartbeats 1000000 in
set_option maxRecDepth 100000 in
theorem l1Below_any (w : World) (g : Nat) (D : Dr w g) (n : Int) :
    Calls Tryz.prog 40 #[.pointer (some ⟨g, 0, none⟩), .int .i64 n] w fun e w' => ∃ x : Int, e = .returned (.int .i64 x) ∧ InR x ∧ (0 < n → 0 ≤ x ∧ x < n) ∧ (n ≤ 0 → x = 0) ∧ Dr w' g ∧ w.grownBy w' (some g) := by
  by_cases h0 : n ≤ 0
  · go_enter Tryz.func40, Tryz.ntmps40
    go_wp2
    go_ret
    exact ⟨0, rfl, ⟨by omega, by omega⟩, fun h => by omega, fun _ => rfl, D, World.grownBy.refl _ _⟩
  · by_cases h1 : n ≤ 256
    · go_enter Tryz.func40, Tryz.ntmps40
      go_wp2_with fail
      refine (l1Byte_any w g D).mono ?_
      rintro e w1 ⟨x, hx, rfl, D1, g1⟩
      have hne : n ≠ 0 := by omega
      have hm1 : Int.tmod (x : Int) n = (x : Int) % n := Int.tmod_eq_emod_of_nonneg (by omega)
      have hm2 := Int.emod_nonneg (x : Int) hne
      have hm3 := Int.emod_lt_of_pos (x : Int) (show 0 < n by omega)
      go_wp2
      go_ret
      exact ⟨(x : Int) % n, rfl, ⟨by omega, by omega⟩, fun _ => ⟨by omega, by omega⟩, fun h => by omega, D1, g1⟩
    · go_enter Tryz.func40, Tryz.ntmps40
      go_wp2_with fail
      refine (l1Byte_any w g D).mono ?_
      rintro e w1 ⟨x, hx, rfl, D1, g1⟩
      go_wp2_with fail
      refine (l1Byte_any w1 g D1).mono ?_
      rintro e w2 ⟨y, hy, rfl, D2, g2⟩
      go_wp2_with fail
      refine (l1Byte_any w2 g D2).mono ?_
      rintro e w3 ⟨z, hz, rfl, D3, g3⟩
      go_wp2_with fail
      refine (l1Byte_any w3 g D3).mono ?_
      rintro e w4 ⟨q, hq, rfl, D4, g4⟩
      have hne : n ≠ 0 := by omega
      obtain ⟨t, ht⟩ : ∃ t : Int, t = (x : Int) * 16777216 + (y : Int) * 65536 + (z : Int) * 256 + (q : Int) := ⟨_, rfl⟩
      have hm1 : Int.tmod t n = t % n := Int.tmod_eq_emod_of_nonneg (by omega)
      have hm2 := Int.emod_nonneg t hne
      have hm3 := Int.emod_lt_of_pos t (show 0 < n by omega)
      have hm5 := Int.mul_ediv_add_emod t n
      have hm6 := Int.ediv_nonneg (a := t) (b := n) (by omega) (by omega)
      have hm7 : 0 ≤ n * (t / n) := Int.mul_nonneg (by omega) hm6
      have hm4 : t % n ≤ t := by omega
      clear hm5 hm6 hm7
      have g14 := gr_trans (gr_trans (gr_trans g1 g2) g3) g4
      go_wp2
      rw [← ht]
      go_ret
      exact ⟨t % n, rfl, ⟨by omega, by omega⟩, fun _ => ⟨by omega, by omega⟩, fun h => by omega, D4, g14⟩
set_option maxHeartbeats 1000000 in
set_option maxRecDepth 100000 in
theorem l1New_any (w : World) (v : Value) (l : List Nat) (hv : Byts w v l) :
    Calls Tryz.prog 41 #[v] w fun e w' => e = .returned (.pointer (some ⟨w.heap.size, 0, none⟩)) ∧ Dr w' w.heap.size ∧ Below w.heap.size w w' := by
  have hv0 := hv
  obtain ⟨a, b, off, c, rfl, hlen, hix, hc, hb, h256⟩ := hv.view Tryz.prog 22 5 Tryz.underlying22 byteElem
  have hD : ∀ h : Int, Dr (w.alloc (.cells #[.slice a l.length c, .int .i64 0, .int .i64 h] 71)) w.heap.size := fun h =>
    ⟨_, l, 0, h, Blk.new _ _ _, hv0.below (bl1 _ _) (Nat.le_refl _), fun h0 b' off' n' c' e => by
      obtain ⟨a2, c2, e2, _, _, _, h4⟩ := hv0
      simp only [Value.slice.injEq] at e e2
      obtain ⟨rfl, _⟩ := e
      obtain ⟨rfl, _⟩ := e2
      rcases h4 with rfl | ⟨b3, off3, e3, hlt, _⟩
      · exact absurd rfl h0
      · simp only [Option.some.injEq, Addr.mk.injEq] at e3
        omega⟩
  go_enter Tryz.func41, Tryz.ntmps41
  go_wp2_with fail
  go_loop [3, 4] (fun h i => ∃ (hh : Int) (k : Nat), h = .int .i64 hh ∧ k ≤ l.length ∧ i = .int .i64 k) (fun _ i => l.length - (intOf i).toNat)
  case atStart => exact ⟨_, 0, rfl, Nat.zero_le _, rfl⟩
  case round =>
    obtain ⟨hh, k, rfl, hk, rfl⟩ := hrel
    by_cases hlt : k < l.length
    · have hlt2 : (k : Int) < (l.length : Int) := by omega
      have ck := hc k hlt
      have ik := fun W => hix W k hlt
      have hx := h256 l[k] (List.getElem_mem _)
      obtain ⟨y, hy⟩ : ∃ y, y = l[k] := ⟨_, rfl⟩
      rw [← hy] at ck hx
      by_cases h4 : (k : Int) < 4000
      · go_wp2
        go_round
        case rel => exact ⟨_, k + 1, rfl, by omega, by go_num⟩
        case measure => simp [intOf]; omega
      · go_wp2
        go_ret
        exact ⟨rfl, hD _, bl1 _ _⟩
    · have hlt2 : ¬ (k : Int) < (l.length : Int) := by omega
      go_wp2
      go_ret
      exact ⟨rfl, hD _, bl1 _ _⟩
end Go.Proofs.YtdagcdgbdhecgaaGreat
end
section
namespace Go.Proofs.YtdagcdgbdhecgaaGreat
open Go.RowKit Go.G5

set_option maxHeartbeats 1000000 in
theorem drawMat_any (w : World) (v : Value) (l : List Nat) (hv : Byts w v l) :
    Calls Tryz.prog 5 #[v] w fun e w' => ∃ x : Int, e = .returned (.int .i64 x) ∧ InR x ∧ Below w.heap.size w w' := by
  have h31 : Calls Tryz.prog 22 #[v] w fun e w' => ∃ x : Int, e = .returned (.int .i64 x) ∧ InR x ∧ Below w.heap.size w w' := by
    go_enter Tryz.func22, Tryz.ntmps22
    go_wp2_with fail
    refine (l1New_any w _ _ hv).mono ?_
    rintro e w1 ⟨rfl, D1, b1⟩
    go_wp2_with fail
    refine (l1Below_any w1 w.heap.size D1 6).mono ?_
    rintro e w2 ⟨x, rfl, _, hx, _, D2, g2⟩
    have hx := hx (by omega)
    go_wp2
    go_ret
    exact ⟨x - 1, rfl, ⟨by omega, by omega⟩, b1.grown g2 b1.size (fun q hq => by have := Option.some.inj hq; omega)⟩
  go_enter Tryz.func5, Tryz.ntmps5
  go_wp2_with fail
  refine h31.mono ?_
  rintro e w1 ⟨x, rfl, hx, b1⟩
  go_wp2
  go_ret
  exact ⟨x, rfl, hx, b1⟩

/-- a slice of functions with one number, as lists -/
structure MatV (W : World) (a : Option Addr) (b c : Nat) (N : Int) (L : List (List Int)) : Prop where
  ix : ∀ (W : World) (k : Nat), k < L.length → (Instr.indexAt 25 (.slice a L.length c) (.int .i64 (k : Int))).run Tryz.prog W = .ok (.pointer (some ⟨b, 2 * k, none⟩)) W
  c : ∀ (k : Nat) (h : k < L.length), ∃ R, W.cell? ⟨b, 2 * k, none⟩ = some (.int .i64 N) ∧ W.cell? ⟨b, 2 * k + 1, none⟩ = some R ∧ Ints W R L[k]
theorem MatV.keep {W W' : World} {a : Option Addr} {b c : Nat} {N : Int} {L : List (List Int)} (h : MatV W a b c N L) (hb : Below W.heap.size W W') : MatV W' a b c N L :=
  ⟨h.ix, fun k hk => by obtain ⟨R, h1, h2, h3⟩ := h.c k hk; exact ⟨R, G5.keep hb h1, G5.keep hb h2, h3.keep hb⟩⟩
theorem MatV.of {w : World} {B : Nat} {v : Value} {its : List FIt} {n : Int} (hv : FunsW 32 3 B w v its) (h : readF its = matF n) : ∃ a b c, v = .slice a (matL n).length c ∧ MatV w a b c n (matL n) := by
  obtain ⟨a, b, c, rfl, hix, hc, ha, hfz⟩ := hv.view Tryz.prog 25 Tryz.underlying25 funElem
  have hl : its.length = (matL n).length := by
    have := congrArg List.length h
    unfold matF at this
    rw [readF_len, List.length_map] at this
    exact this
  rw [hl] at hix ⊢
  refine ⟨a, b, c, rfl, hix, fun k hk => ?_⟩
  have hk2 : k < its.length := by omega
  have e1 := readF_at its k hk2
  rw [h] at e1
  unfold matF at e1
  rw [List.getElem?_map, List.getElem?_eq_getElem hk] at e1
  have e2 := Option.some.inj e1
  injection e2 with e3 e4
  have c1 := hc k hk2
  rw [← e3] at c1
  refine ⟨_, c1.1, c1.2, ?_⟩
  have o1 := (hv.els _ (List.getElem_mem hk2)).2
  rw [← e4] at o1
  exact o1.ints

set_option maxHeartbeats 2000000 in
set_option maxRecDepth 100000 in
theorem sameFuns_any (w : World) (a a' : Option Addr) (b b' c c' : Nat) (N : Int) (L : List (List Int)) (hL : L.length ≤ 65536) (hv : MatV w a b c N L) (hv' : MatV w a' b' c' N L) :
    Calls Tryz.prog 8 #[.slice a L.length c, .slice a' L.length c'] w fun e w' => e = .returned (.bool true) ∧ Below w.heap.size w w' := by
  have HV := Lib.hid hv
  have HV' := Lib.hid hv'
  clear hv hv'
  go_enter Tryz.func8, Tryz.ntmps8
  go_wp2_with fail
  go_loopw [5] (fun i wr => ∃ k : Nat, k ≤ L.length ∧ i = .int .i64 k ∧ Below w.heap.size w wr) (fun i _ => L.length - (intOf i).toNat)
  case atStart => exact ⟨0, Nat.zero_le _, rfl, Below.refl _ _⟩
  case round =>
    obtain ⟨k, hk, rfl, Bw⟩ := hrel
    by_cases hlt : k < L.length
    · obtain ⟨r1, c1, d1, s1⟩ := (HV.out.keep Bw).c k hlt
      obtain ⟨r2, c2, d2, s2⟩ := (HV'.out.keep Bw).c k hlt
      have i1 := fun W => HV.out.ix W k hlt
      have i2 := fun W => HV'.out.ix W k hlt
      obtain ⟨q, hq⟩ : ∃ q, q = 2 * k := ⟨_, rfl⟩
      rw [← hq] at c1 d1 c2 d2
      simp only [← hq] at i1 i2
      have QE := fun y : Ext wr => equalFunctionsS_any N N _ _ L[k] L[k] y.w (y.ints s1) (y.ints s2)
      simp only [decide_true, Bool.and_self] at QE
      have QE := Lib.hid QE
      have g1 : ∀ y : Ext wr, y.w.cell? ⟨b, q, none⟩ = some (.int .i64 N) := fun y => y.cell c1
      have g2 : ∀ y : Ext wr, y.w.cell? ⟨b, q + 1, none⟩ = some r1 := fun y => y.cell d1
      have g3 : ∀ y : Ext wr, y.w.cell? ⟨b', q, none⟩ = some (.int .i64 N) := fun y => y.cell c2
      have g4 : ∀ y : Ext wr, y.w.cell? ⟨b', q + 1, none⟩ = some r2 := fun y => y.cell d2
      clear hq c1 c2 d1 d2 s1 s2
      go_wp2_with fail
      refine wp_region_ext _ (by kernel_rfl) (by kernel_rfl) ?_
      repeat (first | go_big_quiet_skip | (go_big_quiet_want; go_big_quiet_op; first | go_big_quiet_on | (apply Exists.intro; refine ⟨fun _ => ?_, ?_⟩; (go_at_call 11; with_reducible exact ext_call (QE.out _)); go_big_quiet_on)))
      refine wpQuiet_nil ?_
      rintro w9 ⟨⟨w9, hb9⟩, rfl⟩
      try dsimp only
      go_wp2
      go_roundw
      case rel => exact ⟨k + 1, by omega, by go_num, Bw.after hb9 Bw.size⟩
      case measure => simp [intOf]; omega
    · go_wp2
      go_ret
      exact ⟨rfl, Bw⟩
theorem take_mem_succ (L : List (List Int)) (D : List Int) (j : Nat) (h : j < L.length) : decide (D ∈ L.take (j + 1)) = (decide (D ∈ L.take j) || decide (L[j] = D)) := by
  rw [List.take_succ_eq_append_getElem h]
  simp only [List.mem_append, List.mem_singleton, Bool.decide_or]
  congr 1
  exact decide_eq_decide.2 ⟨fun e => e.symm, fun e => e.symm⟩
end Go.Proofs.YtdagcdgbdhecgaaGreat
end
