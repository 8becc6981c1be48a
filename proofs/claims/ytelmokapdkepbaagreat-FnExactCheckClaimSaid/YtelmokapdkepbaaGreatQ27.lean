/- The checks of claims: what is computed. The checks of claims: dual vectors, level sets, best bases: the first program. -/
import Derived.Test.YtelmokapdkepbaaGreatQ26
section
namespace Go.Proofs.YtelmokapdkepbaaGreat
open Go.RowKit Go.G5

/-- the order of a vector's elements goes down -/
theorem scan_down (x o : List Int) (y : Int) : ∀ k, (∀ j, scanO x o y k ≤ j → j < k → x.getD (o.getD j 0).toNat 0 < y) ∧ (0 < scanO x o y k → y ≤ x.getD (o.getD (scanO x o y k - 1) 0).toNat 0) := by
  intro k
  induction k with
  | zero => exact ⟨fun j _ h => by omega, fun h => by simp [scanO] at h⟩
  | succ k ih =>
    rw [scanO]
    split
    · rename_i hlt
      refine ⟨fun j h1 h2 => ?_, ih.2⟩
      by_cases e : j = k
      · rw [e]; exact hlt
      · exact ih.1 j h1 (by omega)
    · rename_i hlt
      exact ⟨fun j h1 h2 => by omega, fun _ => by rw [Nat.add_sub_cancel]; omega⟩
def downO (x o : List Int) : Prop := o.Pairwise fun a b => x.getD b.toNat 0 ≤ x.getD a.toNat 0
theorem down_ins (x o : List Int) (e : Int) (y : Int) (hy : x.getD e.toNat 0 = y) (h : downO x o) : downO x (insO o e (scanO x o y o.length)) := by
  have hs := scan_down x o y o.length
  have hle := scanO_le x o y o.length
  obtain ⟨k, hk⟩ : ∃ k, k = scanO x o y o.length := ⟨_, rfl⟩
  rw [← hk] at hs hle ⊢
  unfold downO insO at *
  rw [List.pairwise_append, List.pairwise_append]
  have hpw := h
  rw [List.pairwise_iff_getElem] at hpw
  have hg : ∀ j, (hj : j < o.length) → o.getD j 0 = o[j] := fun j hj => by rw [List.getD_eq_getElem?_getD, List.getElem?_eq_getElem hj, Option.getD_some]
  have hbe : ∀ a ∈ o.take k, y ≤ x.getD a.toNat 0 := fun a ha => by
    obtain ⟨j, hj, rfl⟩ := List.getElem_of_mem ha
    rw [List.getElem_take]
    rw [List.length_take] at hj
    have h0 := hs.2 (by omega)
    rw [hg (k - 1) (by omega)] at h0
    by_cases e : j = k - 1
    · subst e; exact h0
    · exact Int.le_trans h0 (hpw j (k - 1) (by omega) (by omega) (by omega))
  have haf : ∀ b ∈ o.drop k, x.getD b.toNat 0 ≤ y := fun b hb => by
    obtain ⟨j, hj, rfl⟩ := List.getElem_of_mem hb
    rw [List.getElem_drop]
    rw [List.length_drop] at hj
    have h0 := hs.1 (k + j) (by omega) (by omega)
    rw [hg (k + j) (by omega)] at h0
    omega
  refine ⟨⟨h.sublist (List.take_sublist _ _), List.pairwise_singleton _ _, fun a ha b hb => ?_⟩, h.sublist (List.drop_sublist _ _), fun a ha b hb => ?_⟩
  · rw [List.mem_singleton] at hb
    subst hb
    rw [hy]; exact hbe a ha
  · rcases List.mem_append.1 ha with ha | ha
    · exact Int.le_trans (haf b hb) (hbe a ha)
    · rw [List.mem_singleton] at ha
      subst ha
      rw [hy]; exact haf b hb
theorem ordN_down (x : List Int) : ∀ i, downO x (ordN x i) := by
  intro i
  induction i with
  | zero => exact List.Pairwise.nil
  | succ i ih =>
    have h := down_ins x (ordN x i) (i : Int) (x.getD i 0) (by rw [Int.toNat_natCast]) ih
    rw [ordN_len] at h
    exact h
/-- the level sets of a vector -/
def lvS (o : List Int) : Nat → Int
  | 0 => 0
  | i + 1 => ior (lvS o i) (2 ^ (o.getD i 0).toNat)
def atO (x o : List Int) (i : Nat) : Int := x.getD (o.getD i 0).toNat 0
def cutL (x o : List Int) (i : Nat) : Bool := i + 1 == o.length || atO x o (i + 1) != atO x o i
def lsTo (x o : List Int) : Nat → List Int
  | 0 => []
  | i + 1 => lsTo x o i ++ (if cutL x o i then [lvS o (i + 1)] else [])
def lsL (x : List Int) : List Int := lsTo x (ordN x x.length) x.length
theorem cut_less (x : List Int) (i : Nat) (h : i + 1 < x.length) : (atO x (ordN x x.length) (i + 1) != atO x (ordN x x.length) i) = decide (atO x (ordN x x.length) (i + 1) < atO x (ordN x x.length) i) := by
  have hp := ordN_down x x.length
  unfold downO at hp
  rw [List.pairwise_iff_getElem] at hp
  have hl := ordN_len x x.length
  have h1 := hp i (i + 1) (by omega) (by omega) (by omega)
  unfold atO
  have hg : ∀ j, (hj : j < (ordN x x.length).length) → (ordN x x.length).getD j 0 = (ordN x x.length)[j] := fun j hj => by rw [List.getD_eq_getElem?_getD, List.getElem?_eq_getElem hj, Option.getD_some]
  rw [hg i (by omega), hg (i + 1) (by omega)]
  rw [Bool.eq_iff_iff, bne_iff_ne, decide_eq_true_eq]
  omega
theorem lvS_bd (o : List Int) (h : ∀ e ∈ o, 0 ≤ e ∧ e < 5) : ∀ i, i ≤ o.length → 0 ≤ lvS o i ∧ lvS o i < 32 := by
  intro i
  induction i with
  | zero => intro _; simp [lvS]
  | succ i ih =>
    intro hi
    have h1 := ih (by omega)
    have h2 := h (o.getD i 0) (by rw [List.getD_eq_getElem?_getD, List.getElem?_eq_getElem (show i < o.length by omega), Option.getD_some]; exact List.getElem_mem _)
    rw [lvS]
    have h3 : (2 : Nat) ^ (o.getD i 0).toNat ≤ 2 ^ 4 := Nat.pow_le_pow_right (by decide) (by omega)
    have h4 : ((2 : Int) ^ (o.getD i 0).toNat) = ((2 ^ (o.getD i 0).toNat : Nat) : Int) := by simp
    rw [h4]
    obtain ⟨P, hP⟩ : ∃ P : Nat, P = 2 ^ (o.getD i 0).toNat := ⟨_, rfl⟩
    rw [← hP] at h3 ⊢
    have := ior_bd (lvS o i) (P : Int) 5 h1.1 (by omega) (by omega) (by omega)
    omega
theorem lvS_lt (N : Nat) (o : List Int) (h : ∀ e ∈ o, 0 ≤ e ∧ e < (N : Int)) : ∀ i, i ≤ o.length → 0 ≤ lvS o i ∧ lvS o i < 2 ^ N := by
  intro i
  induction i with
  | zero => intro _; have := Nat.two_pow_pos N; have e : ((2 : Int) ^ N) = ((2 ^ N : Nat) : Int) := by simp
            rw [e]; simp [lvS]; omega
  | succ i ih =>
    intro hi
    have h1 := ih (by omega)
    have h2 := h (o.getD i 0) (by rw [List.getD_eq_getElem?_getD, List.getElem?_eq_getElem (show i < o.length by omega), Option.getD_some]; exact List.getElem_mem _)
    rw [lvS]
    have h3 : (2 : Nat) ^ (o.getD i 0).toNat < 2 ^ N := Nat.pow_lt_pow_right (by decide) (by omega)
    have h4 : ((2 : Int) ^ (o.getD i 0).toNat) = ((2 ^ (o.getD i 0).toNat : Nat) : Int) := by simp
    have h5 : ((2 : Int) ^ N) = ((2 ^ N : Nat) : Int) := by simp
    rw [h4]
    obtain ⟨P, hP⟩ : ∃ P : Nat, P = 2 ^ (o.getD i 0).toNat := ⟨_, rfl⟩
    rw [← hP] at h3 ⊢
    exact ior_bd (lvS o i) (P : Int) N h1.1 (by omega) h1.2 (by rw [h5]; exact Int.ofNat_lt.2 h3)
theorem lsTo_mem (x o : List Int) : ∀ i, ∀ s ∈ lsTo x o i, ∃ k, k ≤ i ∧ s = lvS o k := by
  intro i
  induction i with
  | zero => intro s hs; simp [lsTo] at hs
  | succ i ih =>
    intro s hs
    rw [lsTo] at hs
    rcases List.mem_append.1 hs with h | h
    · obtain ⟨k, hk, e⟩ := ih s h
      exact ⟨k, by omega, e⟩
    · split at h
      · rw [List.mem_singleton] at h
        exact ⟨i + 1, Nat.le_refl _, h⟩
      · simp at h
theorem lsTo_len (x o : List Int) : ∀ i, (lsTo x o i).length ≤ i := by
  intro i
  induction i with
  | zero => simp [lsTo]
  | succ i ih =>
    rw [lsTo, List.length_append]
    split
    · simp; omega
    · simp; omega
theorem lsL_mem (x : List Int) (N : Nat) (hx : x.length = N) : ∀ s ∈ lsL x, 0 ≤ s ∧ s < 2 ^ N := by
  intro s hs
  obtain ⟨k, hk, rfl⟩ := lsTo_mem _ _ _ s hs
  exact lvS_lt N _ (fun e he => by have := ordN_mem x x.length e he; omega) k (by rw [ordN_len]; exact hk)
/-- the sum of a vector -/
def sumV (x : List Int) : Nat → Int
  | 0 => 0
  | k + 1 => sumV x k + x.getD k 0
theorem full_bit : ∀ N : Nat, N < 6 → ∀ k : Nat, k < N → ibit (2 ^ N - 1) k = 1 := by decide +kernel
theorem wt_full (x : List Int) (N : Nat) (hN : N ≤ 5) (hx : x.length = N) : wt x (2 ^ N - 1) = sumV x N := by
  have h : ∀ k, k ≤ N → wtTo x (2 ^ N - 1) k = sumV x k := by
    intro k
    induction k with
    | zero => intro _; rfl
    | succ k ih =>
      intro hk
      rw [wtTo, sumV, if_pos (full_bit N (by omega) k (by omega)), ih (by omega)]
  unfold wt
  rw [hx]
  exact h N (Nat.le_refl _)
def dualV (n : Int) (l x : List Int) : Bool := belB n l x && (x.all (fun y => decide (y ≤ 0)) && wt x (2 ^ n.toNat - 1) == lstN l)
def tightAll (l x : List Int) (ss : List Int) : Bool := ss.all fun s => slackOf l x s == 0
def bestB (n : Int) (l w x : List Int) : Bool := (optB n l w && baseB n l x) && tightAll l x (lsL w)
def sglL (n : Int) (l : List Int) : List Int := (List.range n.toNat).map fun e => l.getD (2 ^ e) 0
def chkMin (n : Int) (l : List Int) (q st : Int) (x : List Int) : Bool := (dualV n l x && isSet n.toNat st) && (l.getD st.toNat 0 == q && wt x (2 ^ n.toNat - 1) == q)
def isElB (n e : Int) : Bool := decide (0 ≤ e) && decide (e < n)
def vioS (n s i k : Int) : Bool := ((isSet n.toNat s && isElB n i) && isElB n k) && i != k
def vioT (l : List Int) (s i k : Int) : Bool := (!nbit s.toNat i.toNat && !nbit s.toNat k.toNat) && badB l (s.toNat, i.toNat, k.toNat)
def chkVio (n : Int) (l x : List Int) : Bool := (isFunB n l && decide (x.length = 3)) && (vioS n (x.getD 0 0) (x.getD 1 0) (x.getD 2 0) && vioT l (x.getD 0 0) (x.getD 1 0) (x.getD 2 0))
def chkBase (n1 : Int) (l1 : List Int) (n2 : Int) (l2 : List Int) (q : Int) (x : List Int) : Bool := ((isGrB n2 l2 && modulB n2 l2) && n2 == n1) && (bestB n1 l1 (sglL n2 l2) x && q == prodTo (sglL n2 l2) x (sglL n2 l2).length)
/-- the number whose bits are these indices, or -1 -/
def idxB (n : Int) (u : Nat) (e : Int) : Bool := isElB n e && !nbit u e.toNat
def idxL (n : Int) : List Int → Nat → Int
  | [], u => (u : Int)
  | e :: r, u => if idxB n u e then idxL n r (setBit u e.toNat) else -1
theorem idx_at (n : Int) (x : List Int) (k : Nat) (h : k < x.length) (u : Nat) : idxL n (x.drop k) u = if idxB n u x[k] then idxL n (x.drop (k + 1)) (setBit u x[k].toNat) else -1 := by
  rw [List.drop_eq_getElem_cons h, idxL]
theorem setBit_64 : ∀ u : Nat, u < 64 → ∀ e : Nat, e < 6 → setBit u e < 64 := by decide +kernel
theorem setBit_pop : ∀ u : Nat, u < 64 → ∀ e : Nat, e < 6 → nbit u e = false → pop (setBit u e) = pop u + 1 := by decide +kernel
theorem setBit_low : ∀ N : Nat, N < 7 → ∀ u : Nat, u < 2 ^ N → ∀ e : Nat, e < 6 → e < N → setBit u e < 2 ^ N := by decide +kernel
theorem idx_ok (N : Nat) (hN : N ≤ 6) : ∀ (x : List Int) (u : Nat), u < 2 ^ N → idxL (N : Int) x u = -1 ∨ ∃ s : Nat, idxL (N : Int) x u = (s : Int) ∧ s < 2 ^ N ∧ pop s = pop u + x.length := by
  intro x
  induction x with
  | nil => intro u hu; exact .inr ⟨u, rfl, hu, by simp⟩
  | cons e r ih =>
    intro u hu
    rw [idxL]
    have h6 : (2 : Nat) ^ N ≤ 2 ^ 6 := Nat.pow_le_pow_right (by decide) hN
    cases hb : idxB (N : Int) u e with
    | false => exact .inl rfl
    | true =>
      unfold idxB isElB at hb
      simp only [Bool.and_eq_true, decide_eq_true_eq, Bool.not_eq_true'] at hb
      obtain ⟨⟨h0, h1⟩, h2⟩ := hb
      rcases ih (setBit u e.toNat) (setBit_low N (by omega) u hu e.toNat (by omega) (by omega)) with h | ⟨s, hs, hs2, hs3⟩
      · exact .inl h
      · refine .inr ⟨s, hs, hs2, ?_⟩
        rw [hs3, setBit_pop u (by omega) e.toNat (by omega) h2, List.length_cons]; omega
theorem pop_zero6 : ∀ s : Nat, s < 64 → pop s = 0 → s = 0 := by decide +kernel
def comT (n : Int) (l1 l2 : List Int) (q st s : Int) : Bool := (freeB l1 s.toNat && freeB l2 s.toNat) && l1.getD st.toNat 0 + l2.getD (2 ^ n.toNat - 1 - st).toNat 0 == q
def chkCom (n1 : Int) (l1 : List Int) (n2 : Int) (l2 : List Int) (q st : Int) (x : List Int) : Bool :=
  ((comB n1 l1 n2 l2 && q == (x.length : Int)) && isSet n1.toNat st) && (decide (0 ≤ idxL n1 x 0) && comT n1 l1 l2 q st (idxL n1 x 0))
def chkCut (n : Int) (l : List Int) (q st : Int) : Bool := (fitB n l && cutN n l == q) && ((decide (0 < st) && decide (st < 2 ^ n.toNat - 1)) && l.getD st.toNat 0 == q)
def chkSun (g : Int) (f : List Int) (q : Int) (x : List Int) : Bool := ((isFamB g f && decide (1 ≤ x.length)) && q == (x.length : Int)) && (x.all (has f) && isSunB x)
def hallT (f : List Int) (x : List Int) : Bool := decide (0 < idxL (f.length : Int) x 0) && decide (ipop (unionTo f (idxL (f.length : Int) x 0).toNat f.length) < ipop (idxL (f.length : Int) x 0))
def chkHall (g : Int) (f : List Int) (q : Int) (x : List Int) : Bool := isFamB g f && (if q = 1 then isRepB g f x else (q == 0 && decide (f.length ≤ 6)) && hallT f x)
def chkB (k n1 : Int) (l1 : List Int) (n2 : Int) (l2 : List Int) (n3 : Int) (l3 : List Int) (q st : Int) (l4 : List Int) : Bool :=
  if k = 1 then chkMin n1 l1 q st l4 else if k = 2 then chkVio n1 l1 l4 else if k = 3 then chkBase n1 l1 n2 l2 q l4 else if k = 4 then chkCom n1 l1 n2 l2 q st l4 else if k = 5 then chkCut n1 l1 q st else if k = 6 then chkSun n3 l3 q l4 else if k = 7 then chkHall n3 l3 q l4 else false
end Go.Proofs.YtelmokapdkepbaaGreat
end
section
namespace Go.Proofs.YtelmokapdkepbaaGreat
open Go.RowKit Go.G5

theorem all_long {n : Int} {x : List Int} (h : isLongB n x = true) : allIn x (-5000) 0 = x.all fun y => decide (y ≤ 0) := by
  obtain ⟨_, h2⟩ := longOk h
  rw [Bool.eq_iff_iff]
  unfold allIn inB
  simp only [List.all_eq_true, Bool.and_eq_true, decide_eq_true_eq]
  constructor
  · intro h y hy; exact (h y hy).2
  · intro h y hy
    obtain ⟨k, hk, rfl⟩ := List.getElem_of_mem hy
    have := h2 k hk
    exact ⟨this.1, h _ hy⟩
theorem bel_parts {n : Int} {l x : List Int} (h : belB n l x = true) : isFunB n l = true ∧ isLongB n x = true := by
  unfold belB at h
  rw [Bool.and_eq_true, Bool.and_eq_true] at h
  refine ⟨?_, h.1.2⟩
  have := h.1.1
  unfold isGrB at this
  rw [Bool.and_eq_true] at this
  exact this.1
set_option maxHeartbeats 1000000 in
set_option maxRecDepth 100000 in
theorem dualVI_any (w : World) (n : Int) (v : Value) (l : List Int) (hv : Ints w v l) (u : Value) (x : List Int) (hu : Ints w u x) :
    Calls Tryz.prog 58 #[.agg #[.int .i64 n, v], u] w fun e w' => e = .returned (.bool (dualV n l x)) ∧ Below w.heap.size w w' := by
  obtain ⟨a, c, rfl⟩ := hv.shape
  obtain ⟨au, cu, rfl⟩ := hu.shape
  have K0 := Blk.new w 31 #[.int .i64 n, .slice a l.length c]
  cases hb : belB n l x with
  | false =>
    have hx : dualV n l x = false := by unfold dualV; rw [hb]; rfl
    have HX := Lib.hid hx
    have HB := Lib.hid hb
    clear hx hb
    go_enter Tryz.func58, Tryz.ntmps58
    go_wp2_with fail
    refine (isBelowI_any _ n _ l (hv.alloc _) _ x (hu.alloc _)).mono ?_
    rintro e w1 ⟨rfl, b1⟩
    rw [HB.out]
    go_wp2
    go_ret
    exact ⟨ret_bool HX.out.symm, (bl1 _ _).after b1 (by simp)⟩
  | true =>
    obtain ⟨hf, hlg⟩ := bel_parts hb
    obtain ⟨N, rfl, hN, hll, _, hbd⟩ := fun_nat hf
    obtain ⟨hxn, hxb⟩ := longOk hlg
    have hx : dualV (N : Int) l x = (x.all (fun y => decide (y ≤ 0)) && wt x (2 ^ N - 1) == lstN l) := by unfold dualV; rw [hb, Int.toNat_natCast]; rfl
    have haw := fun W (h : Ints W (.slice au x.length cu) x) => areWithin_any x _ (-5000) 0 W h
    simp only [all_long hlg] at haw
    have hmn : minN (N : Int) l = lstN l := by unfold minN; rw [hf]; rfl
    have hmi := fun (W : World) (h : Ints W (.slice a l.length c) l) => minimumI_any W (N : Int) _ l h
    simp only [hmn] at hmi
    have hal := fun (W : World) (h : Ints W (.slice a l.length c) l) => allOf_any (N : Int) _ l W h (by omega) (by omega)
    have hp := two_pow N 5 hN
    have hp1 := hp.1
    have hp2 := hp.2
    have hwt := fun W (h : Ints W (.slice au x.length cu) x) => weightOf_any x _ (2 ^ N - 1) W h (by omega) (by simp at hp1; omega) (fun k hk => by have := hxb k hk; omega) (by omega)
    obtain ⟨P, hP⟩ : ∃ P, P = x.all (fun y => decide (y ≤ 0)) := ⟨_, rfl⟩
    obtain ⟨Wt, hWt⟩ : ∃ P, P = wt x (2 ^ N - 1) := ⟨_, rfl⟩
    obtain ⟨M, hM⟩ : ∃ P, P = lstN l := ⟨_, rfl⟩
    rw [← hP, ← hWt, ← hM] at hx
    simp only [← hP] at haw
    simp only [← hWt] at hwt
    simp only [← hM] at hmi
    have HX := Lib.hid hx
    have HB := Lib.hid hb
    have HAW := Lib.hid haw
    have HMI := Lib.hid hmi
    have HAL := Lib.hid hal
    have HWT := Lib.hid hwt
    clear hx hb haw hmi hal hwt hP hWt hM hmn hf hlg hbd hxb hp hxn hll
    go_enter Tryz.func58, Tryz.ntmps58
    go_wp2_with fail
    refine (isBelowI_any _ _ _ l (hv.alloc _) _ x (hu.alloc _)).mono ?_
    rintro e w1 ⟨rfl, b1⟩
    rw [HB.out]
    have B1 : Below w.heap.size w w1 := (bl1 _ _).after b1 (by simp)
    have K1 := K0.keep b1
    clear K0 b1
    have hu1 := hu.below B1 (Nat.le_refl _)
    have hv1 := hv.below B1 (Nat.le_refl _)
    have G := K1.cell
    cases P with
    | false =>
      go_wp2_with (go_at_call 86; refine (HAW.out _ hu1).mono ?_; rintro e w' ⟨rfl, rfl⟩)
      go_ret
      exact ⟨ret_bool HX.out.symm, B1⟩
    | true =>
      go_wp2_with (go_at_call 86; refine (HAW.out _ hu1).mono ?_; rintro e w' ⟨rfl, rfl⟩)
      refine (HMI.out w1 hv1).mono ?_
      rintro e w2 ⟨rfl, b2⟩
      have B2 := B1.after b2 B1.size
      have K2 := K1.keep b2
      have hu2 := hu.below B2 (Nat.le_refl _)
      have hv2 := hv.below B2 (Nat.le_refl _)
      clear G hu1 hv1 K1 b2
      have G := K2.cell
      go_wp2_with fail
      refine (HAL.out w2 hv2).mono ?_
      rintro e w3 ⟨rfl, b3⟩
      have B3 := B2.after b3 B2.size
      have hu3 := hu.below B3 (Nat.le_refl _)
      rw [Int.toNat_natCast]
      go_wp2_with (go_at_call 60; refine (HWT.out _ hu3).mono ?_; rintro e w' ⟨rfl, rfl⟩)
      go_ret
      exact ⟨ret_bool HX.out.symm, B3⟩

set_option maxHeartbeats 2000000 in
set_option maxRecDepth 100000 in
theorem levelsOf_any (x : List Int) (v : Value) (w : World) (hv : Ints w v x) (h5 : x.length ≤ 5) (hx : ∀ y ∈ x, -1000 ≤ y ∧ y ≤ 1000) :
    Calls Tryz.prog 93 #[v] w fun e w' => ∃ ad i c, e = .returned (.slice ad i c) ∧ OwnI 3 w.heap.size w' (.slice ad i c) (lsL x) ∧ Below w.heap.size w w' := by
  obtain ⟨a, b, off, c, rfl, hlen, hix, hc, hb⟩ := hv.view Tryz.prog 22 3 Tryz.underlying22 intElem
  have hds := descending_any x _ w h5 hv hx
  have hom := ordN_mem x x.length
  have hol := ordN_len x x.length
  obtain ⟨T, hT⟩ : ∃ T, T = lsL x := ⟨_, rfl⟩
  have hTe : T = lsTo x (ordN x x.length) x.length := hT
  rw [← hT]
  obtain ⟨o, ho⟩ : ∃ o, o = ordN x x.length := ⟨_, rfl⟩
  rw [← ho] at hds hom hol hTe
  have HX := Lib.hid hx
  have HC := Lib.hid hc
  have HIX := Lib.hid hix
  have HDS := Lib.hid hds
  have HOM := Lib.hid hom
  have HOL := Lib.hid hol
  have HT := Lib.hid hTe
  have hlb := fun i (hi : i ≤ o.length) => lvS_bd o (fun e he => by have := hom e he; omega) i hi
  have HLB := Lib.hid hlb
  clear hc hix hds hom hol hTe hT hlb hx ho
  go_enter Tryz.func93, Tryz.ntmps93
  go_wp2_with fail
  refine HDS.out.mono ?_
  rintro e w2 ⟨po, io, qo, rfl, oo, b2⟩
  have hio : io = x.length := by rw [← HOL.out]; exact oo.ints.capLe.1
  subst hio
  have hoi := oo.ints
  rw [show (Value.slice po x.length qo) = .slice po o.length qo by rw [HOL.out]] at hoi
  obtain ⟨_, ob, ooff, _, hve, _, hoix, hoc, hob⟩ := hoi.view Tryz.prog 22 3 Tryz.underlying22 intElem
  injection hve with x1 _ x3
  subst x1 x3
  have HOC := Lib.hid hoc
  have HOIX := Lib.hid (show ∀ (w' : World) (k : Nat), k < x.length → (Instr.indexAt 22 (.slice po x.length qo) (.int .i64 (k : Int))).run Tryz.prog w' = .ok (.pointer (some ⟨ob, ooff + k, none⟩)) w' by intro w' k hk; have := hoix w' k (by rw [HOL.out]; exact hk); rw [HOL.out] at this; exact this)
  have hob2 : x ≠ [] → ob < w2.heap.size := fun h => hob (fun e => h (by have := HOL.out; rw [e] at this; exact List.eq_nil_of_length_eq_zero this.symm))
  have HOB := Lib.hid hob2
  clear hoc hoix hob hoi oo hob2
  go_wp2_with fail
  go_loopw [3, 4, 12] (fun ov sv iv wr => ∃ (i : Nat) (p : Option Addr) (q m : Nat), i ≤ x.length ∧ iv = .int .i64 i ∧ sv = .int .i64 (lvS o i) ∧ ov = .slice p q m ∧ OwnI 3 w2.heap.size wr (.slice p q m) (lsTo x o i) ∧ Below w2.heap.size w2 wr) (fun _ _ iv _ => x.length - (intOf iv).toNat)
  case atStart => exact ⟨0, _, _, _, Nat.zero_le _, rfl, rfl, rfl, OwnI.nil _ _ _, Below.refl _ _⟩
  case round =>
    obtain ⟨i, p, q, m, hi, rfl, rfl, rfl, own, Bw⟩ := hrel
    obtain ⟨wo, rfl⟩ : ∃ z : World, z = wr := ⟨_, rfl⟩
    have HOWN := Lib.hid own
    have B2w := b2.after Bw b2.size
    clear own
    by_cases hlt : i < x.length
    · have hlt2 : (i : Int) < (x.length : Int) := by omega
      have hio : i < o.length := by rw [HOL.out]; exact hlt
      have oc := HOC.out i hio
      have ocw : wo.cell? ⟨ob, ooff + i, none⟩ = some (.int .i64 o[i]) := by
        have hz := HOB.out (fun e => by rw [e] at hlt; simp at hlt)
        rw [Bw.cell (p := ⟨ob, ooff + i, none⟩) hz]; exact oc
      have oix := fun W => HOIX.out W i hlt
      have hm := HOM.out _ (List.getElem_mem hio)
      have hl1 := HLB.out i (by omega)
      have hl2 := HLB.out (i + 1) (by omega)
      have hnx : lvS o (i + 1) = ior (lvS o i) (2 ^ o[i].toNat) := by rw [lvS, List.getD_eq_getElem?_getD, List.getElem?_eq_getElem hio, Option.getD_some]
      have hat : atO x o i = x.getD o[i].toNat 0 := by unfold atO; rw [getD_at o i hio]
      have hls : lsTo x o (i + 1) = lsTo x o i ++ (if cutL x o i then [lvS o (i + 1)] else []) := rfl
      obtain ⟨e, he⟩ : ∃ e : Nat, o[i] = (e : Int) := ⟨o[i].toNat, by omega⟩
      rw [he] at ocw hm hnx hat
      rw [Int.toNat_natCast] at hnx hat
      have he5 : e < x.length := by omega
      rw [getD_at x e he5] at hat
      have xe := HC.out e he5
      have xew := cells_below HC.out hb B2w (Nat.le_refl _) e he5
      have xie := fun W => HIX.out W e he5
      have hxe := HX.out _ (List.getElem_mem he5)
      obtain ⟨X1, hX1⟩ : ∃ X1, X1 = x[e] := ⟨_, rfl⟩
      rw [← hX1] at xew hat hxe
      have hp := two_pow e 5 (by omega)
      have hp1 := hp.1
      have hp2 := hp.2
      simp at hp1
      obtain ⟨s1, hs1⟩ : ∃ s, s = lvS o i := ⟨_, rfl⟩
      obtain ⟨s2, hs2⟩ : ∃ s, s = lvS o (i + 1) := ⟨_, rfl⟩
      rw [← hs1] at hl1 hnx ⊢
      rw [← hs2] at hl2 hnx hls
      have hor : bits .or .i64 s1 (2 ^ e) = s2 := by rw [hnx]; exact ior_is hl1.1 (by omega) (by omega) (by omega)
      have HS2 := Lib.hid hs2
      have HLS := Lib.hid hls
      have hll := lsTo_len x o i
      have hwi : IntKind.i64.wrap ((i : Int) + 1) = (i : Int) + 1 := by rw [IntKind.wrap_i64]; omega
      have zo := Bw.size
      have hcut : cutL x o i = (i + 1 == o.length || atO x o (i + 1) != atO x o i) := rfl
      rw [hat] at hcut
      clear oc xe hX1 hs1 hs2 hnx hls hat he hm hp
      by_cases hend : i + 1 = x.length
      · have hce : cutL x o i = true := by rw [hcut, HOL.out]; simp [hend]
        have ht : ((i : Int) + 1 == (x.length : Int)) = true := by simp; omega
        have hls2 : lsTo x o (i + 1) = lsTo x o i ++ [s2] := by rw [HLS.out, hce]; rfl
        have HL2 := Lib.hid hls2
        clear hce hls2 hcut hend
        go_wp2_with fail
        go_quiet (fail)
        go_wp2_with (at_builtin; refine wpList_appendI rfl _ _ _ rfl 3 Tryz.underlying22 intElem w2.heap.size _ (lsTo x o i) s2 _ rfl rfl (cell_new _ _ _ _ _ rfl) ((HOWN.out.drewN _).alloc _) ⟨by omega, by omega⟩ (by omega) (by simp; omega) ?_; intro v' w6 hown hgr; obtain ⟨av, nv, cv, rfl⟩ := hown.shape3)
        have B6 : Below w2.heap.size w2 w6 := ((Bw.drewN' _).alloc (Bw.drewN' _).size (.cells #[.int .i64 s2] 3)).grown hgr (by have := Bw.size; simp; omega) (fun q hq => (HOWN.out.lt q hq).1)
        go_roundw
        case rel => exact ⟨i + 1, av, nv, cv, by omega, by go_num, by rw [HS2.out], rfl, by rw [HL2.out]; exact hown, B6⟩
        case measure => simp [intOf]; omega
      · have hlt' : i + 1 < x.length := by omega
        have ht : ((i : Int) + 1 == (x.length : Int)) = false := by simp; omega
        have hio' : i + 1 < o.length := by rw [HOL.out]; exact hlt'
        have oc' := HOC.out (i + 1) hio'
        have ocw' : wo.cell? ⟨ob, ooff + (i + 1), none⟩ = some (.int .i64 o[i + 1]) := by
          have hz := HOB.out (fun e => by rw [e] at hlt; simp at hlt)
          rw [Bw.cell (p := ⟨ob, ooff + (i + 1), none⟩) hz]; exact oc'
        have oix' : ∀ W, (Instr.indexAt 22 (.slice po x.length qo) (.int .i64 ((i : Int) + 1))).run Tryz.prog W = .ok (.pointer (some ⟨ob, ooff + (i + 1), none⟩)) W := fun W => by have := HOIX.out W (i + 1) hlt'; simpa using this
        have hm' := HOM.out _ (List.getElem_mem hio')
        have hat' : atO x o (i + 1) = x.getD o[i + 1].toNat 0 := by unfold atO; rw [getD_at o (i + 1) hio']
        obtain ⟨e', he'⟩ : ∃ e' : Nat, o[i + 1] = (e' : Int) := ⟨o[i + 1].toNat, by omega⟩
        rw [he'] at ocw' hm' hat'
        rw [Int.toNat_natCast] at hat'
        have he5' : e' < x.length := by omega
        rw [getD_at x e' he5'] at hat'
        have xew' := cells_below HC.out hb B2w (Nat.le_refl _) e' he5'
        have xie' := fun W => HIX.out W e' he5'
        obtain ⟨X2, hX2⟩ : ∃ X2, X2 = x[e'] := ⟨_, rfl⟩
        rw [← hX2] at xew' hat'
        rw [hat'] at hcut
        have hne : (i + 1 == o.length) = false := by rw [HOL.out]; simp; omega
        rw [hne, Bool.false_or] at hcut
        clear oc' hX2 hat' he' hm' hne
        cases hc2 : X2 != X1 with
        | false =>
          have hls2 : lsTo x o (i + 1) = lsTo x o i := by rw [HLS.out, hcut, hc2]; simp
          have HL2 := Lib.hid hls2
          clear hls2 hcut hend
          go_wp2_with fail
          go_quiet (fail)
          go_wp2
          go_roundw
          case rel => exact ⟨i + 1, p, q, m, by omega, by go_num, by rw [HS2.out], rfl, by rw [HL2.out]; exact HOWN.out.drewN _, Bw.drewN' _⟩
          case measure => simp [intOf]; omega
        | true =>
          have hls2 : lsTo x o (i + 1) = lsTo x o i ++ [s2] := by rw [HLS.out, hcut, hc2]; rfl
          have HL2 := Lib.hid hls2
          clear hls2 hcut hend
          go_wp2_with fail
          go_quiet (fail)
          go_wp2_with (at_builtin; refine wpList_appendI rfl _ _ _ rfl 3 Tryz.underlying22 intElem w2.heap.size _ (lsTo x o i) s2 _ rfl rfl (cell_new _ _ _ _ _ rfl) ((HOWN.out.drewN _).alloc _) ⟨by omega, by omega⟩ (by omega) (by simp; omega) ?_; intro v' w6 hown hgr; obtain ⟨av, nv, cv, rfl⟩ := hown.shape3)
          have B6 : Below w2.heap.size w2 w6 := ((Bw.drewN' _).alloc (Bw.drewN' _).size (.cells #[.int .i64 s2] 3)).grown hgr (by have := Bw.size; simp; omega) (fun q hq => (HOWN.out.lt q hq).1)
          go_roundw
          case rel => exact ⟨i + 1, av, nv, cv, by omega, by go_num, by rw [HS2.out], rfl, by rw [HL2.out]; exact hown, B6⟩
          case measure => simp [intOf]; omega
    · have hlt2 : ¬ (i : Int) < (x.length : Int) := by omega
      have hie : i = x.length := by omega
      subst hie
      go_wp2
      go_ret
      exact ⟨_, _, _, rfl, by rw [HT.out]; exact HOWN.out.mono b2.size, b2.after Bw b2.size⟩
end Go.Proofs.YtelmokapdkepbaaGreat
end
