/- Common independent sets and what bounds them: what is computed. Common independent sets: whether two functions are ranks of matroids alike; sets that are free. Vectors. -/
import Derived.Test.YtelmokapdkepbaaGreatQ16
section
namespace Go.Proofs.YtelmokapdkepbaaGreat
open Go.RowKit Go.G5

def comB (n : Int) (l : List Int) (m : Int) (k : List Int) : Bool := (rankB n l && rankB m k) && decide (n = m)
def freeB (l : List Int) (s : Nat) : Bool := decide (l.getD s 0 = (pop s : Int))
/-- the first of the largest common sets below t -/
def lcTo (l k : List Int) : Nat → Nat
  | 0 => 0
  | t + 1 => if decide (pop (lcTo l k t) < pop t) && (freeB l t && freeB k t) then t else lcTo l k t
def sumT (l k : List Int) (t : Nat) : Int := l.getD t 0 + k.getD (l.length - 1 - t) 0
/-- the first set below t with the least sum -/
def spTo (l k : List Int) : Nat → Nat
  | 0 => 0
  | t + 1 => if sumT l k t < sumT l k (spTo l k t) then t else spTo l k t
def lcS (n : Int) (l : List Int) (m : Int) (k : List Int) : Int := if comB n l m k then (lcTo l k l.length : Int) else 0
def cbS (n : Int) (l : List Int) (m : Int) (k : List Int) : Int := if comB n l m k then (spTo l k l.length : Int) else 0
def cbN (n : Int) (l : List Int) (m : Int) (k : List Int) : Int := if comB n l m k then sumT l k (spTo l k l.length) else 0
theorem lcTo_lt (l k : List Int) : ∀ t, 0 < t → lcTo l k t < t := by
  intro t
  induction t with
  | zero => intro h; omega
  | succ t ih =>
    intro _
    rw [lcTo]
    split
    · omega
    · rcases Nat.eq_zero_or_pos t with rfl | h
      · simp [lcTo]
      · have := ih h; omega
theorem spTo_lt (l k : List Int) : ∀ t, 0 < t → spTo l k t < t := by
  intro t
  induction t with
  | zero => intro h; omega
  | succ t ih =>
    intro _
    rw [spTo]
    split
    · omega
    · rcases Nat.eq_zero_or_pos t with rfl | h
      · simp [spTo]
      · have := ih h; omega
theorem lcTo_one (l k : List Int) : lcTo l k 1 = 0 := by
  have := lcTo_lt l k 1 (by omega); omega
theorem spTo_one (l k : List Int) : spTo l k 1 = 0 := by
  have := spTo_lt l k 1 (by omega); omega
theorem com_fun {n m : Int} {l k : List Int} (h : comB n l m k = true) : m = n ∧ ∃ N : Nat, n = N ∧ N ≤ 5 ∧ l.length = 2 ^ N ∧ l.length ≤ 32 ∧ k.length = l.length ∧ (∀ i, (hi : i < l.length) → -1000 ≤ l[i] ∧ l[i] ≤ 1000) ∧ (∀ i, (hi : i < k.length) → -1000 ≤ k[i] ∧ k[i] ≤ 1000) := by
  unfold comB rankB at h
  simp only [Bool.and_eq_true, decide_eq_true_eq] at h
  obtain ⟨⟨⟨h1, _⟩, h2, _⟩, rfl⟩ := h
  obtain ⟨N, rfl, hN5, hl2, hl32, hlb⟩ := fun_nat (poly_fun h1)
  obtain ⟨M, hM, hM5, hk2, hk32, hkb⟩ := fun_nat (poly_fun h2)
  have : N = M := by omega
  subst this
  exact ⟨rfl, N, rfl, hN5, hl2, hl32, by omega, hlb, hkb⟩
end Go.Proofs.YtelmokapdkepbaaGreat
end
section
namespace Go.Proofs.YtelmokapdkepbaaGreat
open Go.RowKit Go.G5

theorem beq_dec (a b : Int) : (a == b) = decide (a = b) := by by_cases h : a = b <;> simp [h]
set_option maxHeartbeats 1000000 in
set_option maxRecDepth 100000 in
theorem areMatI_any (w : World) (n : Int) (v : Value) (l : List Int) (hv : Ints w v l) (hl : l.length ≤ 1048576) (m : Int) (u : Value) (k : List Int) (hu : Ints w u k) (hk : k.length ≤ 1048576) :
    Calls Tryz.prog 70 #[.agg #[.int .i64 n, v], .agg #[.int .i64 m, u]] w fun e w' => e = .returned (.bool (comB n l m k)) ∧ Below w.heap.size w w' := by
  obtain ⟨a, c, rfl⟩ := hv.shape
  obtain ⟨b, d, rfl⟩ := hu.shape
  go_enter Tryz.func70, Tryz.ntmps70
  go_wp2_with fail
  refine calls_named ?_
  intro V hV
  have B : Below w.heap.size w V := by rw [hV]; exact bl2 _ _ _
  have K1 : Blk V w.heap.size 31 #[.int .i64 n, .slice a l.length c] := by rw [hV]; exact (Blk.new _ _ _).alloc _
  have K2 : Blk V (w.heap.size + 1) 31 #[.int .i64 m, .slice b k.length d] := by rw [hV]; have := Blk.new (w.alloc (.cells #[.int .i64 n, .slice a l.length c] 31)) 31 #[.int .i64 m, .slice b k.length d]; simpa using this
  clear hV
  refine (rankI_any n l _ V (hv.below B (Nat.le_refl _)) hl).mono ?_
  rintro e w1 ⟨rfl, b1⟩
  have K1 := K1.keep b1
  have K2 := K2.keep b1
  have B := B.after b1 B.size
  have z2 := K2.lt
  cases h1 : rankB n l with
  | false =>
    have hx : comB n l m k = false := by unfold comB; rw [h1]; rfl
    have HX := Lib.hid hx
    clear hx h1
    have G1 := K1.cell
    have G2 := K2.cell
    go_wp2
    go_ret
    exact ⟨ret_bool HX.out.symm, B⟩
  | true =>
    have H1 := Lib.hid h1
    clear h1
    have G2 := K2.cell
    go_wp2_with fail
    clear G2
    refine (rankI_any m k _ w1 (hu.below B (Nat.le_refl _)) hk).mono ?_
    rintro e w2 ⟨rfl, b2⟩
    have K1 := K1.keep b2
    have K2 := K2.keep b2
    have B := B.after b2 B.size
    have hx : comB n l m k = (rankB m k && decide (n = m)) := by unfold comB; rw [H1.out]; rfl
    have HX := Lib.hid hx
    clear hx
    have G1 := K1.cell
    have G2 := K2.cell
    have z2 := K2.lt
    cases h2 : rankB m k with
    | false =>
      have H2 := Lib.hid h2
      clear h2
      go_wp2
      go_ret
      exact ⟨ret_bool (by rw [HX.out, H2.out]; rfl), B⟩
    | true =>
      have H2 := Lib.hid h2
      clear h2
      go_wp2
      go_ret
      exact ⟨ret_bool (by rw [HX.out, H2.out, Bool.true_and]; exact beq_dec n m), B⟩
set_option maxHeartbeats 1000000 in
set_option maxRecDepth 100000 in
theorem areMatS_any (w : World) (n : Int) (v : Value) (l : List Int) (hv : Ints w v l) (hl : l.length ≤ 1048576) (m : Int) (u : Value) (k : List Int) (hu : Ints w u k) (hk : k.length ≤ 1048576) :
    Calls Tryz.prog 22 #[.agg #[.int .i64 n, v], .agg #[.int .i64 m, u]] w fun e w' => e = .returned (.bool (comB n l m k)) ∧ Below w.heap.size w w' := by
  obtain ⟨a, c, rfl⟩ := hv.shape
  obtain ⟨b, d, rfl⟩ := hu.shape
  go_enter Tryz.func22, Tryz.ntmps22
  go_wp2_with fail
  refine calls_named ?_
  intro V hV
  have B : Below w.heap.size w V := by rw [hV]; exact bl2 _ _ _
  have K1 : Blk V w.heap.size 31 #[.int .i64 n, .slice a l.length c] := by rw [hV]; exact (Blk.new _ _ _).alloc _
  have K2 : Blk V (w.heap.size + 1) 31 #[.int .i64 m, .slice b k.length d] := by rw [hV]; have := Blk.new (w.alloc (.cells #[.int .i64 n, .slice a l.length c] 31)) 31 #[.int .i64 m, .slice b k.length d]; simpa using this
  clear hV
  refine (rankS_any n l _ V (hv.below B (Nat.le_refl _)) hl).mono ?_
  rintro e w1 ⟨rfl, b1⟩
  have K1 := K1.keep b1
  have K2 := K2.keep b1
  have B := B.after b1 B.size
  have z2 := K2.lt
  cases h1 : rankB n l with
  | false =>
    have hx : comB n l m k = false := by unfold comB; rw [h1]; rfl
    have HX := Lib.hid hx
    clear hx h1
    have G1 := K1.cell
    have G2 := K2.cell
    go_wp2
    go_ret
    exact ⟨ret_bool HX.out.symm, B⟩
  | true =>
    have H1 := Lib.hid h1
    clear h1
    have G2 := K2.cell
    go_wp2_with fail
    clear G2
    refine (rankS_any m k _ w1 (hu.below B (Nat.le_refl _)) hk).mono ?_
    rintro e w2 ⟨rfl, b2⟩
    have K1 := K1.keep b2
    have K2 := K2.keep b2
    have B := B.after b2 B.size
    have hx : comB n l m k = (rankB m k && decide (n = m)) := by unfold comB; rw [H1.out]; rfl
    have HX := Lib.hid hx
    clear hx
    have G1 := K1.cell
    have G2 := K2.cell
    have z2 := K2.lt
    cases h2 : rankB m k with
    | false =>
      have H2 := Lib.hid h2
      clear h2
      go_wp2
      go_ret
      exact ⟨ret_bool (by rw [HX.out, H2.out]; rfl), B⟩
    | true =>
      have H2 := Lib.hid h2
      clear h2
      go_wp2
      go_ret
      exact ⟨ret_bool (by rw [HX.out, H2.out, Bool.true_and]; exact beq_dec n m), B⟩
set_option maxHeartbeats 1000000 in
set_option maxRecDepth 100000 in
theorem isFree_any (w : World) (n : Int) (v : Value) (l : List Int) (hv : Ints w v l) (s : Nat) (hs : s < l.length) (hs2 : s < 64) :
    Calls Tryz.prog 96 #[.agg #[.int .i64 n, v], .int .i64 s] w fun e w' => e = .returned (.bool (freeB l s)) ∧ Below w.heap.size w w' := by
  have hv0 := hv
  obtain ⟨a, b, off, c, rfl, hlen, hix, hc, hb⟩ := hv.view Tryz.prog 22 3 Tryz.underlying22 intElem
  obtain ⟨V, hV⟩ : ∃ V, V = w.alloc (.cells #[.int .i64 n, .slice a l.length c] 31) := ⟨_, rfl⟩
  have B : Below w.heap.size w V := by rw [hV]; exact bl1 _ _
  have K1 : Blk V w.heap.size 31 #[.int .i64 n, .slice a l.length c] := by rw [hV]; exact Blk.new _ _ _
  have ck := cells_below hc hb B (Nat.le_refl _) s hs
  have ik := fun W => hix W s hs
  have hg : l.getD s 0 = l[s] := getD_at l s hs
  have hfr : freeB l s = decide (l[s] = (pop s : Int)) := by unfold freeB; rw [hg]
  obtain ⟨x, hx⟩ : ∃ x, x = l[s] := ⟨_, rfl⟩
  rw [← hx] at ck hfr
  have HFR := Lib.hid hfr
  have HS := Lib.hid (fun W => sizeOf_any s W (by omega))
  have e1 : ∀ y : Ext V, y.w.cell? ⟨w.heap.size, 1, none⟩ = some (.slice a l.length c) := fun y => y.cell (K1.cell 1)
  have e2 : ∀ y : Ext V, y.w.cell? ⟨b, off + s, none⟩ = some (.int .i64 x) := fun y => y.cell ck
  clear hc hix hb hg hfr hx ck
  go_enter Tryz.func96, Tryz.ntmps96
  go_wp2_with fail
  rw [← hV]
  clear hV
  refine wp_region_ext _ (by kernel_rfl) (by kernel_rfl) ?_
  repeat (first | go_big_quiet_skip | (go_big_quiet_want; go_big_quiet_op; first | go_big_quiet_on | (apply Exists.intro; refine ⟨fun _ => ?_, ?_⟩; (go_at_call 102; exact ext_same (HS.out _)); go_big_quiet_on)))
  refine wpQuiet_nil ?_
  rintro w3 ⟨⟨w3, hb3⟩, rfl⟩
  try dsimp only
  go_wp2
  go_ret
  exact ⟨ret_bool (by rw [HFR.out]; exact beq_dec _ _), B.after hb3 B.size⟩
end Go.Proofs.YtelmokapdkepbaaGreat
end
section
namespace Go.Proofs.YtelmokapdkepbaaGreat
open Go.RowKit Go.G5

def vecB (x : List Int) : Bool := decide (x.length ≤ 5) && allIn x (-1000) 1000
set_option maxHeartbeats 400000 in
theorem isVector_any (x : List Int) (v : Value) (w : World) (hv : Ints w v x) :
    Calls Tryz.prog 122 #[v] w fun e w' => e = .returned (.bool (vecB x)) ∧ w = w' := by
  have hv0 := hv
  obtain ⟨a, c, rfl⟩ := hv.shape
  by_cases h5 : x.length ≤ 5
  · have h5i : (x.length : Int) ≤ 5 := by omega
    have hx : vecB x = allIn x (-1000) 1000 := by unfold vecB; rw [decide_eq_true h5, Bool.true_and]
    have HX := Lib.hid hx
    have HAW := Lib.hid (areWithin_any x _ (-1000) 1000 w hv0)
    clear hx
    go_enter Tryz.func122, Tryz.ntmps122
    go_wp2_with fail
    refine HAW.out.mono ?_
    rintro e w1 ⟨rfl, rfl⟩
    go_wp2
    go_ret
    exact ⟨ret_bool HX.out.symm, rfl⟩
  · have h5i : ¬ (x.length : Int) ≤ 5 := by omega
    have hx : vecB x = false := by unfold vecB; rw [decide_eq_false h5]; rfl
    have HX := Lib.hid hx
    clear hx
    go_enter Tryz.func122, Tryz.ntmps122
    go_wp2
    go_ret
    exact ⟨ret_bool HX.out.symm, rfl⟩
set_option maxHeartbeats 400000 in
theorem l7Vector_any (x : List Int) (v : Value) (w : World) (hv : Ints w v x) :
    Calls Tryz.prog 81 #[v] w fun e w' => e = .returned (.bool (vecB x)) ∧ w = w' := by
  obtain ⟨a, b, off, c, rfl, hlen, hix, hc, hb⟩ := hv.view Tryz.prog 22 3 Tryz.underlying22 intElem
  go_enter Tryz.func81, Tryz.ntmps81
  go_wp2_with fail
  go_loop [3] (fun i => ∃ k : Nat, k ≤ x.length ∧ i = .int .i64 k ∧ (x.take k).all (fun y => inB y (-1000) 1000) = true) (fun i => x.length - (intOf i).toNat)
  case atStart => exact ⟨0, Nat.zero_le _, rfl, by simp⟩
  case round =>
    obtain ⟨k, hk, rfl, hall⟩ := hrel
    have H := Lib.hid hall
    clear hall
    by_cases hlt : k < x.length
    · cases hs : inB x[k] (-1000) 1000 with
      | true =>
        go_wp2_with (go_at_call 17; refine (l1In_any _ _ _ _).mono ?_; rintro e w' ⟨rfl, rfl⟩)
        go_round
        case rel => exact ⟨k + 1, by omega, by go_num, by rw [all_take_succ _ _ _ hlt, H.out, hs]; rfl⟩
        case measure => simp [intOf]; omega
      | false =>
        have hx : vecB x = false := by unfold vecB allIn; rw [all_false_at (fun y => inB y (-1000) 1000) _ _ hlt hs]; simp
        have HX := Lib.hid hx
        clear hx
        go_wp2_with (go_at_call 17; refine (l1In_any _ _ _ _).mono ?_; rintro e w' ⟨rfl, rfl⟩)
        go_ret
        exact ⟨ret_bool HX.out.symm, rfl⟩
    · have hal : allIn x (-1000) 1000 = true := by unfold allIn; rw [← all_of_take (fun y => inB y (-1000) 1000) x k (by omega), H.out]
      have hx : vecB x = decide (x.length ≤ 5) := by unfold vecB; rw [hal, Bool.and_true]
      have HX := Lib.hid hx
      clear hx hal
      by_cases h5 : x.length ≤ 5
      · have h5i : (x.length : Int) ≤ 5 := by omega
        have hd := decide_eq_true h5
        have HD := Lib.hid hd
        clear hd
        go_wp2
        go_ret
        exact ⟨ret_bool (by rw [HX.out, HD.out]), rfl⟩
      · have h5i : ¬ (x.length : Int) ≤ 5 := by omega
        have hd := decide_eq_false h5
        have HD := Lib.hid hd
        clear hd
        go_wp2
        go_ret
        exact ⟨ret_bool (by rw [HX.out, HD.out]), rfl⟩

def optB (n : Int) (l x : List Int) : Bool := (isGrB n l && subB n l) && (vecB x && decide ((x.length : Int) = n))
set_option maxHeartbeats 400000 in
theorem isVectorFor_any (n : Int) (v : Value) (l : List Int) (w : World) (hv : Ints w v l) (u : Value) (x : List Int) (hu : Ints w u x) :
    Calls Tryz.prog 111 #[.agg #[.int .i64 n, v], u] w fun e w' => e = .returned (.bool (vecB x && decide ((x.length : Int) = n))) ∧ Below w.heap.size w w' := by
  obtain ⟨a, c, rfl⟩ := hv.shape
  obtain ⟨V, hV⟩ : ∃ V, V = w.alloc (.cells #[.int .i64 n, .slice a l.length c] 31) := ⟨_, rfl⟩
  have B : Below w.heap.size w V := by rw [hV]; exact bl1 _ _
  have K : Blk V w.heap.size 31 #[.int .i64 n, .slice a l.length c] := by rw [hV]; exact Blk.new _ _ _
  have HV := Lib.hid (isVector_any x u V (hu.below B (Nat.le_refl _)))
  obtain ⟨b, d, rfl⟩ := hu.shape
  have G := K.cell
  cases h : vecB x with
  | false =>
    rw [h] at HV
    go_enter Tryz.func111, Tryz.ntmps111
    go_wp2_with fail
    rw [← hV]
    clear hV
    refine HV.out.mono ?_
    rintro e w1 ⟨rfl, rfl⟩
    go_wp2
    go_ret
    exact ⟨ret_bool (by simp), B⟩
  | true =>
    rw [h] at HV
    go_enter Tryz.func111, Tryz.ntmps111
    go_wp2_with fail
    rw [← hV]
    clear hV
    refine HV.out.mono ?_
    rintro e w1 ⟨rfl, rfl⟩
    go_wp2
    go_ret
    exact ⟨ret_bool (by rw [Bool.true_and]; exact beq_dec _ _), B⟩

set_option maxHeartbeats 1000000 in
theorem canOptI_any (w : World) (n : Int) (v : Value) (l : List Int) (hv : Ints w v l) (hl : l.length ≤ 1048576) (u : Value) (x : List Int) (hu : Ints w u x) :
    Calls Tryz.prog 91 #[.agg #[.int .i64 n, v], u] w fun e w' => e = .returned (.bool (optB n l x)) ∧ Below w.heap.size w w' := by
  obtain ⟨a, c, rfl⟩ := hv.shape
  obtain ⟨b, d, rfl⟩ := hu.shape
  obtain ⟨V, hV⟩ : ∃ V, V = w.alloc (.cells #[.int .i64 n, .slice a l.length c] 31) := ⟨_, rfl⟩
  have B : Below w.heap.size w V := by rw [hV]; exact bl1 _ _
  have K : Blk V w.heap.size 31 #[.int .i64 n, .slice a l.length c] := by rw [hV]; exact Blk.new _ _ _
  go_enter Tryz.func91, Tryz.ntmps91
  go_wp2_with fail
  rw [← hV]
  clear hV
  refine (isGrI_any n l _ V (hv.below B (Nat.le_refl _))).mono ?_
  rintro e w1 ⟨rfl, b1⟩
  have K := K.keep b1
  have B := B.after b1 B.size
  have G := K.cell
  have z := K.lt
  cases hg : isGrB n l with
  | false =>
    have hx : optB n l x = false := by unfold optB; rw [hg]; rfl
    have HX := Lib.hid hx
    clear hx hg
    go_wp2
    go_ret
    exact ⟨ret_bool HX.out.symm, B⟩
  | true =>
  have HG := Lib.hid hg
  clear hg
  go_wp2_with fail
  clear G z
  refine (isSubI_any n l _ w1 (hv.below B (Nat.le_refl _)) hl).mono ?_
  rintro e w2 ⟨rfl, b2⟩
  have K := K.keep b2
  have B := B.after b2 B.size
  have G := K.cell
  have z := K.lt
  cases hs : subB n l with
  | false =>
    have hx : optB n l x = false := by unfold optB; rw [hs]; simp
    have HX := Lib.hid hx
    clear hx hs
    go_wp2
    go_ret
    exact ⟨ret_bool HX.out.symm, B⟩
  | true =>
  have hx : optB n l x = (vecB x && decide ((x.length : Int) = n)) := by unfold optB; rw [HG.out, hs]; rfl
  have HX := Lib.hid hx
  clear hx hs
  go_wp2_with fail
  clear z
  refine (isVectorFor_any n _ l w2 (hv.below B (Nat.le_refl _)) _ x (hu.below B (Nat.le_refl _))).mono ?_
  rintro e w3 ⟨rfl, b3⟩
  go_wp2
  go_ret
  exact ⟨ret_bool HX.out.symm, B.after b3 B.size⟩
set_option maxHeartbeats 1000000 in
theorem l9Fit_any (w : World) (n : Int) (v : Value) (l : List Int) (hv : Ints w v l) (hl : l.length ≤ 1048576) (u : Value) (x : List Int) (hu : Ints w u x) :
    Calls Tryz.prog 49 #[.agg #[.int .i64 n, v], u] w fun e w' => e = .returned (.bool (optB n l x)) ∧ Below w.heap.size w w' := by
  obtain ⟨a, c, rfl⟩ := hv.shape
  obtain ⟨b, d, rfl⟩ := hu.shape
  obtain ⟨V, hV⟩ : ∃ V, V = w.alloc (.cells #[.int .i64 n, .slice a l.length c] 31) := ⟨_, rfl⟩
  have B : Below w.heap.size w V := by rw [hV]; exact bl1 _ _
  have K : Blk V w.heap.size 31 #[.int .i64 n, .slice a l.length c] := by rw [hV]; exact Blk.new _ _ _
  go_enter Tryz.func49, Tryz.ntmps49
  go_wp2_with fail
  rw [← hV]
  clear hV
  refine (isGrS_any n l _ V (hv.below B (Nat.le_refl _))).mono ?_
  rintro e w1 ⟨rfl, b1⟩
  have K := K.keep b1
  have B := B.after b1 B.size
  have G := K.cell
  have z := K.lt
  cases hg : isGrB n l with
  | false =>
    have hx : optB n l x = false := by unfold optB; rw [hg]; rfl
    have HX := Lib.hid hx
    clear hx hg
    go_wp2
    go_ret
    exact ⟨ret_bool HX.out.symm, B⟩
  | true =>
  have HG := Lib.hid hg
  clear hg
  go_wp2_with fail
  clear G z
  refine (isSubS_any n l _ w1 (hv.below B (Nat.le_refl _)) hl).mono ?_
  rintro e w2 ⟨rfl, b2⟩
  have K := K.keep b2
  have B := B.after b2 B.size
  have G := K.cell
  have z := K.lt
  cases hs : subB n l with
  | false =>
    have hx : optB n l x = false := by unfold optB; rw [hs]; simp
    have HX := Lib.hid hx
    clear hx hs
    go_wp2
    go_ret
    exact ⟨ret_bool HX.out.symm, B⟩
  | true =>
  have hx : optB n l x = (vecB x && decide ((x.length : Int) = n)) := by unfold optB; rw [HG.out, hs]; rfl
  have HX := Lib.hid hx
  clear hx hs
  go_wp2_with fail
  clear z
  refine (l7Vector_any x _ w2 (hu.below B (Nat.le_refl _))).mono ?_
  rintro e w3 ⟨rfl, rfl⟩
  cases hvx : vecB x with
  | false =>
    have HV := Lib.hid hvx
    clear hvx
    go_wp2
    go_ret
    exact ⟨ret_bool (by rw [HX.out, HV.out]; rfl), B⟩
  | true =>
    have HV := Lib.hid hvx
    clear hvx
    go_wp2
    go_ret
    exact ⟨ret_bool (by rw [HX.out, HV.out, Bool.true_and]; exact beq_dec _ _), B⟩
end Go.Proofs.YtelmokapdkepbaaGreat
end
