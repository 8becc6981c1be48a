/- Games: the facts that the law asks for. Least values and where they are taken. Submodular functions: tight sets, dual vectors, minimizers. -/
import Derived.Test.YtipejodijbjpcaaGreatDoorQ25
section
namespace Go.Proofs.YtipejodijbjpcaaGreatDoor
open Go.RowKit Go.G5

theorem coreOk_true (l x : List Int) : ∀ m, (∀ k : Nat, k < m → slackOf l x k ≤ 0) → coreOkTo l x m = true := by
  intro m
  induction m with
  | zero => intro _; rfl
  | succ m ih =>
    intro h
    rw [coreOkTo, ih (fun k hk => h k (by omega)), decide_eq_true (h m (by omega))]; rfl
theorem gr_zero {n : Int} {l : List Int} (h : isGrB n l = true) : l.getD 0 0 = 0 := by
  unfold isGrB at h
  rw [Bool.and_eq_true, decide_eq_true_eq] at h
  exact h.2
theorem core_corner (n : Int) (l o : List Int) (hg : isGrB n l = true) (hs : supB n l = true) (ho : (o.length : Int) = n) (hd : Dist o.length o) : inCoreB n l (cornerL l o) = true := by
  obtain ⟨N, rfl, hN5, hl2, hl32, hlb⟩ := fun_nat (grOk hg)
  have hN : o.length = N := by omega
  rw [hN] at hd
  have hp : Perm N o := ⟨hN, hd⟩
  have h0 := gr_zero hg
  have hsu := (sup_iff N l (grOk hg)).1 hs
  have hlen : (cornerL l o).length = N := by unfold cornerL; rw [cornerTo_len]; exact hN
  have hbd := cornerTo_bd l o (by rw [hN]; exact hl2) hlb (by rw [hN]; exact hd.bd) o.length (Nat.le_refl _)
  have hlong : isLongB (N : Int) (cornerL l o) = true := by
    unfold isLongB allIn
    rw [hlen, decide_eq_true rfl, Bool.true_and, List.all_eq_true]
    intro y hy
    have := hbd y hy
    exact inB_true.2 ⟨by omega, by omega⟩
  have hge : ∀ s : Nat, s < 2 ^ N → l.getD s 0 ≤ wt (cornerL l o) s := by
    intro s hs2
    have := corner_ge hp l hsu s N (Nat.le_refl _)
    rw [pref_full hp hN5, h0] at this
    have hand : s &&& (2 ^ N - 1) = s := by rw [Nat.and_two_pow_sub_one_eq_mod]; exact Nat.mod_eq_of_lt hs2
    rw [hand] at this
    unfold cornerL
    rw [hN]
    omega
  have heq := corner_eq hp l N (Nat.le_refl _)
  rw [pref_full hp hN5, h0] at heq
  have hpn := Nat.two_pow_pos N
  have hcast : ((2 ^ N - 1 : Nat) : Int) = (2 : Int) ^ N - 1 := by rw [Int.ofNat_sub hpn]; simp
  have hok : coreOkTo l (cornerL l o) l.length = true := coreOk_true _ _ _ (fun k hk => by
    have := hge k (by omega)
    unfold slackOf
    rw [Int.toNat_natCast]; omega)
  have hsl : slackOf l (cornerL l o) (2 ^ (N : Int).toNat - 1) = 0 := by
    unfold slackOf
    rw [Int.toNat_natCast, ← hcast, Int.toNat_natCast]
    unfold cornerL
    rw [hN, heq]; omega
  unfold inCoreB
  rw [hg, hlong, hok, hsl]; rfl

/-! the core and the bases of the opposite -/
def negX (x : List Int) : List Int := x.map fun y => -y
theorem negX_len (x : List Int) : (negX x).length = x.length := by unfold negX; simp
theorem negX_getD (x : List Int) (k : Nat) : (negX x).getD k 0 = -(x.getD k 0) := by
  unfold negX
  rw [List.getD_eq_getElem?_getD, List.getElem?_map, List.getD_eq_getElem?_getD]
  cases x[k]? <;> rfl
theorem wt_neg (x : List Int) (s : Int) : wt (negX x) s = - wt x s := by
  unfold wt
  rw [negX_len]
  have : ∀ k, wtTo (negX x) s k = - wtTo x s k := by
    intro k
    induction k with
    | zero => rfl
    | succ k ih =>
      rw [wtTo, wtTo, ih, negX_getD]
      split <;> omega
  exact this _
theorem slack_neg (l x : List Int) (s : Int) : slackOf (negL l) (negX x) s = - slackOf l x s := by
  unfold slackOf
  rw [negL_getD, wt_neg]; omega
theorem long_neg (n : Int) (x : List Int) : isLongB n (negX x) = isLongB n x := by
  unfold isLongB allIn
  rw [negX_len]
  congr 1
  unfold negX
  rw [List.all_map]
  apply List.all_congr rfl
  intro y
  have h1 : inB (-y) (-5000) 5000 = true ↔ inB y (-5000) 5000 = true := by rw [inB_true, inB_true]; omega
  cases h2 : inB y (-5000) 5000 with
  | true => exact h1.2 h2
  | false =>
    cases h3 : inB (-y) (-5000) 5000 with
    | true => rw [h1.1 h3] at h2; cases h2
    | false => exact h3
theorem gr_neg (n : Int) (l : List Int) (h : isGrB n l = true) : isGrB n (negL l) = true := by
  have h0 := gr_zero h
  unfold isGrB
  rw [neg_fun n l (grOk h), negL_getD, h0]; rfl
theorem core_base (n : Int) (l x : List Int) (h : isGrB n l = true) : baseB n (negL l) (negX x) = inCoreB n l x := by
  unfold baseB belB inCoreB
  rw [gr_neg n l h, h, long_neg, negL_len, slack_neg]
  have hok : ∀ m, belOkTo (negL l) (negX x) m = coreOkTo l x m := by
    intro m
    induction m with
    | zero => rfl
    | succ m ih =>
      rw [belOkTo, coreOkTo, ih, slack_neg]
      congr 1
      exact decide_eq_decide.2 ⟨fun q => by omega, fun q => by omega⟩
  rw [hok]
  have hz : (-slackOf l x (2 ^ n.toNat - 1) == 0) = (slackOf l x (2 ^ n.toNat - 1) == 0) := by
    cases hq : (slackOf l x (2 ^ n.toNat - 1) == 0) with
    | true => rw [beq_iff_eq] at hq ⊢; omega
    | false =>
      cases hr : (-slackOf l x (2 ^ n.toNat - 1) == 0) with
      | true => rw [beq_iff_eq] at hr; have : slackOf l x (2 ^ n.toNat - 1) = 0 := by omega
                rw [this] at hq; cases hq
      | false => rfl
  rw [hz]

end Go.Proofs.YtipejodijbjpcaaGreatDoor
end
section
namespace Go.Proofs.YtipejodijbjpcaaGreatDoor
open Go.RowKit Go.G5

def lstTo (l : List Int) : Nat → Int
  | 0 => l.getD 0 0
  | k + 1 => min (lstTo l k) (l.getD k 0)
def lstN (l : List Int) : Int := lstTo l l.length
def mzTo (l : List Int) (m : Int) : Nat → List Int
  | 0 => []
  | k + 1 => if l.getD k 0 = m then mzTo l m k ++ [(k : Int)] else mzTo l m k
def mzL (n : Int) (l : List Int) : List Int := if isFunB n l then mzTo l (lstN l) l.length else []
def lmTo (M : Int) (q : List Int) : Nat → Int
  | 0 => M
  | k + 1 => iand (lmTo M q k) (q.getD k 0)
def lmN (n : Int) (l : List Int) : Int := if subB n l then lmTo (2 ^ n.toNat - 1) (mzL n l) (mzL n l).length else 0
def minN (n : Int) (l : List Int) : Int := if isFunB n l then lstN l else 0
theorem lst_one (l : List Int) : lstTo l 1 = l.getD 0 0 := by show min (l.getD 0 0) (l.getD 0 0) = _; omega
theorem lst_at (l : List Int) (h : 0 < l.length) : ∀ k, k ≤ l.length → ∃ i, i < l.length ∧ l.getD i 0 = lstTo l k := by
  intro k
  induction k with
  | zero => intro _; exact ⟨0, h, rfl⟩
  | succ k ih =>
    intro hk
    obtain ⟨i, hi, he⟩ := ih (by omega)
    rw [lstTo]
    by_cases hc : lstTo l k ≤ l.getD k 0
    · exact ⟨i, hi, by omega⟩
    · exact ⟨k, by omega, by omega⟩
theorem mz_mem (l : List Int) (m : Int) : ∀ k, ∀ s ∈ mzTo l m k, 0 ≤ s ∧ s < k := by
  intro k
  induction k with
  | zero => intro s h; simp [mzTo] at h
  | succ k ih =>
    intro s h
    rw [mzTo] at h
    by_cases hc : l.getD k 0 = m
    · rw [if_pos hc] at h
      rcases List.mem_append.1 h with h | h
      · have := ih s h; omega
      · have := List.mem_singleton.1 h; omega
    · rw [if_neg hc] at h
      have := ih s h; omega
theorem mz_len (l : List Int) (m : Int) : ∀ k, (mzTo l m k).length ≤ k := by
  intro k
  induction k with
  | zero => simp [mzTo]
  | succ k ih =>
    rw [mzTo]
    split
    · simp; omega
    · omega
theorem mz_ne (l : List Int) (m : Int) (i : Nat) (hi : l.getD i 0 = m) : ∀ k, i < k → mzTo l m k ≠ [] := by
  intro k
  induction k with
  | zero => intro h; omega
  | succ k ih =>
    intro hk
    rw [mzTo]
    by_cases hc : l.getD k 0 = m
    · rw [if_pos hc]; simp
    · rw [if_neg hc]
      have : i ≠ k := fun e => hc (e ▸ hi)
      exact ih (by omega)
theorem mzL_facts {n : Int} {l : List Int} (h : isFunB n l = true) : mzL n l ≠ [] ∧ (mzL n l).length ≤ 32 ∧ ∀ s ∈ mzL n l, 0 ≤ s ∧ s < 2 ^ n.toNat ∧ s < 64 := by
  obtain ⟨N, rfl, hN5, hl2, hl32, _⟩ := fun_nat h
  have hx : mzL (N : Int) l = mzTo l (lstN l) l.length := by unfold mzL; rw [h]; rfl
  have hpos : 0 < l.length := by rw [hl2]; exact Nat.two_pow_pos N
  rw [hx]
  obtain ⟨i, hi, he⟩ := lst_at l hpos l.length (Nat.le_refl _)
  refine ⟨mz_ne l (lstN l) i he l.length hi, Nat.le_trans (mz_len l _ _) hl32, fun s hs => ?_⟩
  have := mz_mem l _ _ s hs
  have h4 : ((2 ^ N : Nat) : Int) = (2 : Int) ^ N := by push_cast; rfl
  simp only [Int.toNat_natCast]
  omega

set_option maxHeartbeats 400000 in
theorem sliceMin_any (l : List Int) (v : Value) (w : World) (hv : Ints w v l) (hpos : 0 < l.length) :
    Calls Tryz.prog 130 #[v] w fun e w' => e = .returned (.int .i64 (lstN l)) ∧ w = w' := by
  obtain ⟨a, b, off, c, rfl, hlen, hix, hc, hb⟩ := hv.view Tryz.prog 22 3 Tryz.underlying22 intElem
  have h1 : ¬ (l.length : Int) < 1 := by omega
  have i0 : ∀ W, (Instr.indexAt 22 (.slice a l.length c) (.int .i64 0)).run Tryz.prog W = .ok (.pointer (some ⟨b, off, none⟩)) W := fun W => hix W 0 hpos
  have c0 : w.cell? ⟨b, off, none⟩ = some (.int .i64 (l.getD 0 0)) := by rw [getD_at l 0 hpos]; exact hc 0 hpos
  go_enter Tryz.func130, Tryz.ntmps130
  go_wp2
  go_loop [3, 4] (fun m i => ∃ k : Nat, 1 ≤ k ∧ k ≤ l.length ∧ i = .int .i64 k ∧ m = .int .i64 (lstTo l k)) (fun _ i => l.length - (intOf i).toNat)
  case atStart => exact ⟨1, Nat.le_refl _, hpos, rfl, by rw [lst_one, getD_at l 0 hpos]⟩
  case round =>
    obtain ⟨k, hk1, hk, rfl, rfl⟩ := hrel
    by_cases hlt : k < l.length
    · have hck := hc k hlt
      have hik := fun W => hix W k hlt
      have hn : lstTo l (k + 1) = min (lstTo l k) l[k] := by rw [lstTo, getD_at l k hlt]
      obtain ⟨p, hp⟩ : ∃ p, p = l[k] := ⟨_, rfl⟩
      obtain ⟨q, hq⟩ : ∃ q, q = lstTo l k := ⟨_, rfl⟩
      rw [← hp] at hck hn
      rw [← hq] at hn ⊢
      have HN := Lib.hid hn
      clear hn hp hq hc hix
      go_wp2
      go_round
      case rel => exact ⟨k + 1, by omega, by omega, by go_num, by rw [HN.out] <;> (congr 1 <;> (split <;> omega))⟩
      case measure => simp [intOf]; omega
    · have hkl : k = l.length := by omega
      have HK := Lib.hid hkl
      clear hkl
      go_wp2
      go_ret
      exact ⟨ret_int (by rw [HK.out]; rfl), rfl⟩

set_option maxHeartbeats 400000 in
theorem minimumI_any (w : World) (n : Int) (v : Value) (l : List Int) (hv : Ints w v l) :
    Calls Tryz.prog 21 #[.agg #[.int .i64 n, v]] w fun e w' => e = .returned (.tuple #[.int .i64 (minN n l), .bool (isFunB n l)]) ∧ Below w.heap.size w w' := by
  obtain ⟨a, c, rfl⟩ := hv.shape
  go_enter Tryz.func21, Tryz.ntmps21
  go_wp2_with fail
  refine calls_named ?_
  intro V hV
  have B : Below w.heap.size w V := by rw [hV]; exact bl1 _ _
  have K : Blk V w.heap.size 32 #[.int .i64 n, .slice a l.length c] := by rw [hV]; exact Blk.new _ _ _
  clear hV
  refine (isFunI_any n l _ V (hv.below B (Nat.le_refl _))).mono ?_
  rintro e w1 ⟨rfl, b1⟩
  have K := K.keep b1
  have B := B.after b1 B.size
  have G := K.cell
  cases hf : isFunB n l with
  | false =>
    have hx : minN n l = 0 := by unfold minN; rw [hf]; rfl
    have HX := Lib.hid (And.intro hx hf)
    clear hx hf
    go_wp2
    go_ret2
    exact ⟨by rw [HX.out.1, HX.out.2]; rfl, B⟩
  | true =>
    have hx : minN n l = lstN l := by unfold minN; rw [hf]; rfl
    have hpos : 0 < l.length := by
      obtain ⟨N, rfl, _, hl2, _⟩ := fun_nat hf
      rw [hl2]; exact Nat.two_pow_pos N
    have HX := Lib.hid (And.intro hx hf)
    have HM := Lib.hid (sliceMin_any l _ w1 (hv.below B (Nat.le_refl _)) hpos)
    clear hx hf
    go_wp2_with (go_at_call 130; refine HM.out.mono ?_; rintro e w' ⟨rfl, rfl⟩)
    go_ret2
    exact ⟨by rw [HX.out.1, HX.out.2]; rfl, B⟩

set_option maxHeartbeats 1000000 in
set_option maxRecDepth 100000 in
theorem minimizersI_any (w : World) (n : Int) (v : Value) (l : List Int) (hv : Ints w v l) :
    Calls Tryz.prog 23 #[.agg #[.int .i64 n, v]] w fun e w' => ∃ ad i c, e = .returned (.tuple #[.slice ad i c, .bool (isFunB n l)]) ∧ OwnI 3 w.heap.size w' (.slice ad i c) (mzL n l) ∧ Below w.heap.size w w' := by
  obtain ⟨a, b, off, c, rfl, hlen, hix, hc, hb⟩ := hv.view Tryz.prog 22 3 Tryz.underlying22 intElem
  go_enter Tryz.func23, Tryz.ntmps23
  go_wp2_with fail
  refine calls_named ?_
  intro V hV
  have B : Below w.heap.size w V := by rw [hV]; exact bl1 _ _
  have K : Blk V w.heap.size 32 #[.int .i64 n, .slice a l.length c] := by rw [hV]; exact Blk.new _ _ _
  clear hV
  refine (minimumI_any V n _ l (hv.below B (Nat.le_refl _))).mono ?_
  rintro e w1 ⟨rfl, b1⟩
  have K := K.keep b1
  have B := B.after b1 B.size
  have G := K.cell
  cases hf : isFunB n l with
  | false =>
    have hx : mzL n l = [] := by unfold mzL; rw [hf]; rfl
    have HX := Lib.hid (And.intro hx hf)
    clear hx hf
    go_wp2
    go_ret2
    exact ⟨none, 0, 0, by rw [HX.out.2]; rfl, by rw [HX.out.1]; exact OwnI.nil _ _ _, B⟩
  | true =>
    have hx : mzL n l = mzTo l (lstN l) l.length := by unfold mzL; rw [hf]; rfl
    have hm : minN n l = lstN l := by unfold minN; rw [hf]; rfl
    have hl32 : l.length ≤ 32 := by
      obtain ⟨N, rfl, _, _, h, _⟩ := fun_nat hf
      exact h
    obtain ⟨M, hM⟩ : ∃ M, M = lstN l := ⟨_, rfl⟩
    rw [hm, ← hM]
    have HM := Lib.hid hM
    have HX := Lib.hid (And.intro hx hf)
    clear hx hf hm hM
    go_wp2_with fail
    go_loopw [6, 19] (fun out i wr => ∃ (k : Nat) (ad : Option Addr) (nn cp : Nat), k ≤ l.length ∧ out = .slice ad nn cp ∧ i = .int .i64 k ∧ OwnI 3 w.heap.size wr (.slice ad nn cp) (mzTo l (lstN l) k) ∧ Below w.heap.size w wr) (fun _ i _ => l.length - (intOf i).toNat)
    case atStart => exact ⟨0, none, 0, 0, Nat.zero_le _, rfl, rfl, OwnI.nil _ _ _, B⟩
    case round =>
      obtain ⟨k, ad, nn, cp, hk, rfl, rfl, ho, Br⟩ := hrel
      have HO := Lib.hid ho
      clear ho
      by_cases hlt : k < l.length
      · have hlt2 : (k : Int) < (l.length : Int) := by omega
        have hck := cells_below hc hb Br (Nat.le_refl _) k hlt
        have hik := fun W => hix W k hlt
        have hn : mzTo l (lstN l) (k + 1) = if l[k] = M then mzTo l (lstN l) k ++ [(k : Int)] else mzTo l (lstN l) k := by rw [mzTo, getD_at l k hlt, HM.out]
        obtain ⟨y, hy⟩ : ∃ y, y = l[k] := ⟨_, rfl⟩
        rw [← hy] at hck hn
        have HN := Lib.hid hn
        clear hn hy
        by_cases hye : y = M
        · have hbe : (y == M) = true := by simp [hye]
          have HYE := Lib.hid hye
          clear hye
          have o4 := HO.out
          have r4 := o4.lt
          have zr := Br.size
          go_wp2_with (at_builtin; refine wpList_appendI rfl _ _ _ rfl 3 Tryz.underlying22 intElem w.heap.size _ _ (k : Int) wr.heap.size rfl rfl (by simp) (o4.alloc _) ⟨by omega, by omega⟩ (by have := mz_len l (lstN l) k; omega) (by simp; omega) ?_; intro v' w6 hown hgr; obtain ⟨av, nv, cv, rfl⟩ := hown.shape3)
          have B6 : Below w.heap.size w w6 := (Br.alloc Br.size (.cells #[.int .i64 (k : Int)] 3)).grown hgr (by simp; omega) (fun q hq => (r4 q hq).1)
          go_roundw
          case rel => exact ⟨k + 1, av, nv, cv, by omega, rfl, by go_num, by rw [HN.out, if_pos HYE.out]; exact hown, B6⟩
          case measure => simp [intOf]; omega
        · have hbe : (y == M) = false := by simp [hye]
          have HYE := Lib.hid hye
          clear hye
          go_wp2
          go_roundw
          case rel => exact ⟨k + 1, ad, nn, cp, by omega, rfl, by go_num, by rw [HN.out, if_neg HYE.out]; exact HO.out, Br⟩
          case measure => simp [intOf]; omega
      · have hlt2 : ¬ (k : Int) < (l.length : Int) := by omega
        have hkl : k = l.length := by omega
        have ho := HO.out
        rw [hkl, ← HX.out.1] at ho
        have HO := Lib.hid ho
        clear hkl ho
        go_wp2
        go_ret2
        exact ⟨ad, nn, cp, by rw [HX.out.2]; rfl, HO.out, Br⟩
set_option maxHeartbeats 1000000 in
set_option maxRecDepth 100000 in
theorem leastMinI_any (w : World) (n : Int) (v : Value) (l : List Int) (hv : Ints w v l) (hl : l.length ≤ 1048576) :
    Calls Tryz.prog 135 #[.agg #[.int .i64 n, v]] w fun e w' => e = .returned (.tuple #[.int .i64 (lmN n l), .bool (subB n l)]) ∧ Below w.heap.size w w' := by
  obtain ⟨a, c, rfl⟩ := hv.shape
  go_enter Tryz.func135, Tryz.ntmps135
  go_wp2_with fail
  refine calls_named ?_
  intro V hV
  have B : Below w.heap.size w V := by rw [hV]; exact bl1 _ _
  have K : Blk V w.heap.size 32 #[.int .i64 n, .slice a l.length c] := by rw [hV]; exact Blk.new _ _ _
  clear hV
  refine (isSubI_any n l _ V (hv.below B (Nat.le_refl _)) hl).mono ?_
  rintro e w1 ⟨rfl, b1⟩
  have K := K.keep b1
  have B := B.after b1 B.size
  have G := K.cell
  cases hs : subB n l with
  | false =>
    have hx : lmN n l = 0 := by unfold lmN; rw [hs]; rfl
    have HX := Lib.hid (And.intro hx hs)
    clear hx hs
    go_wp2
    go_ret2
    exact ⟨by rw [HX.out.1, HX.out.2]; rfl, B⟩
  | true =>
    have hf : isFunB n l = true := by unfold subB at hs; exact (Bool.and_eq_true_iff.1 hs).1
    have hx : lmN n l = lmTo (2 ^ n.toNat - 1) (mzL n l) (mzL n l).length := by unfold lmN; rw [hs]; rfl
    obtain ⟨_, hq32, hqm⟩ := mzL_facts hf
    obtain ⟨h0, h5, _, _⟩ := funOk hf
    have HX := Lib.hid (And.intro hx hs)
    obtain ⟨q, hq⟩ : ∃ q, q = mzL n l := ⟨_, rfl⟩
    have hmz := minimizersI_any w1 n _ l (hv.below B (Nat.le_refl _))
    rw [← hq] at hmz hq32 hqm
    have HMZ := Lib.hid hmz
    have HQ := Lib.hid hq
    have HQM := Lib.hid hqm
    clear hx hs hf hmz hq hqm
    go_wp2_with fail
    clear G
    refine HMZ.out.mono ?_
    rintro e w2 ⟨p, i, cc, rfl, o, b2⟩
    have K := K.keep b2
    have B1 := B.after b2 B.size
    have hi : i = q.length := by
      obtain ⟨_, _, h⟩ := o.shape
      injection h
    subst hi
    have G := K.cell
    go_wp2_with fail
    clear G
    refine (allOf_any n _ l w2 (hv.below B1 (Nat.le_refl _)) h0 (by omega)).mono ?_
    rintro e w3 ⟨rfl, b3⟩
    have B2 := B1.after b3 B1.size
    have o := o.keep b3
    obtain ⟨a1, bq, offq, c1, hs1, hlen1, hix1, hc1, hb1⟩ := o.ints.view Tryz.prog 22 3 Tryz.underlying22 intElem
    injection hs1 with h1 h2 h3
    subst h1 h3
    have hM := two_pow n.toNat 5 (by omega)
    obtain ⟨M, hMe⟩ : ∃ M : Int, M = 2 ^ n.toNat - 1 := ⟨_, rfl⟩
    have hMb : 0 ≤ M ∧ M < 64 := by have h1 := hM.1; have h2 := hM.2; simp at h1; omega
    rw [← hMe]
    have HME := Lib.hid hMe
    clear hM hMe o
    go_wp2_with fail
    go_loop [6, 21] (fun m i => ∃ k : Nat, k ≤ q.length ∧ i = .int .i64 k ∧ m = .int .i64 (lmTo M q k) ∧ 0 ≤ lmTo M q k ∧ lmTo M q k < 64) (fun _ i => q.length - (intOf i).toNat)
    case atStart => exact ⟨0, Nat.zero_le _, rfl, rfl, hMb⟩
    case round =>
      obtain ⟨k, hk, rfl, rfl, hb1, hb2⟩ := hrel
      by_cases hlt : k < q.length
      · have hlt2 : (k : Int) < (q.length : Int) := by omega
        have ck := hc1 k hlt
        have ik := fun W => hix1 W k hlt
        have hm := HQM.out _ (List.getElem_mem hlt)
        have hn : lmTo M q (k + 1) = iand (lmTo M q k) q[k] := by rw [lmTo, getD_at q k hlt]
        obtain ⟨y, hy⟩ : ∃ y, y = q[k] := ⟨_, rfl⟩
        obtain ⟨z, hz⟩ : ∃ z, z = lmTo M q k := ⟨_, rfl⟩
        rw [← hy] at ck hm hn
        rw [← hz] at hn hb1 hb2 ⊢
        have hia := iand_is hb1 (by omega) hm.1 (by omega)
        have hbd := iand_bd z y 64 hb1 hb2
        rw [← hn] at hbd
        have HN := Lib.hid hn
        have HBD := Lib.hid hbd
        clear hn hbd hy hz hm hc1 hix1
        go_wp2
        go_round
        case rel => exact ⟨k + 1, by omega, by go_num, by rw [HN.out], HBD.out⟩
        case measure => simp [intOf]; omega
      · have hlt2 : ¬ (k : Int) < (q.length : Int) := by omega
        have hkl : k = q.length := by omega
        have HK := Lib.hid hkl
        clear hkl
        go_wp2
        go_ret2
        exact ⟨by rw [HX.out.1, HX.out.2, ← HQ.out, ← HME.out, ← HK.out]; rfl, B2⟩
end Go.Proofs.YtipejodijbjpcaaGreatDoor
end
section
namespace Go.Proofs.YtipejodijbjpcaaGreatDoor
open Go.RowKit Go.G5

/-- what a submodular function has: gains fall -/
def Sub (N : Nat) (l : List Int) : Prop := ∀ s i k : Nat, s < 2 ^ N → i < k → k < N → nbit s i = false → nbit s k = false → exL l s i k ≤ 0
theorem gain_anti (N : Nat) (l : List Int) (h : Sub N l) (A B e : Nat) (hB : B < 2 ^ N) (he : e < N) (hAB : ∀ j, A.testBit j = true → B.testBit j = true) (hBe : B.testBit e = false) : gainL l B e ≤ gainL l A e := by
  have h1 := gain_mono N (negL l) (fun s i k a b c d f => by rw [exL_neg]; have := h s i k a b c d f; omega) A B e hB he hAB hBe
  unfold gainL at h1 ⊢
  simp only [negL_getD] at h1
  omega
theorem sub_ineq (N : Nat) (l : List Int) (h : Sub N l) (A B : Nat) (hA : A < 2 ^ N) (hB : B < 2 ^ N) : l.getD (A ||| B) 0 + l.getD (A &&& B) 0 ≤ l.getD A 0 + l.getD B 0 := by
  have key : ∀ j, j ≤ N → l.getD (B ||| A % 2 ^ j) 0 - l.getD B 0 ≤ l.getD ((A &&& B) ||| A % 2 ^ j) 0 - l.getD (A &&& B) 0 := by
    intro j
    induction j with
    | zero => intro _; simp [Nat.mod_one]
    | succ j ih =>
      intro hj
      have ih := ih (by omega)
      by_cases hb : A.testBit j = true ∧ B.testBit j = false
      · have hset : ∀ C : Nat, C ||| A % 2 ^ (j + 1) = setBit (C ||| A % 2 ^ j) j := by
          intro C
          apply Nat.eq_of_testBit_eq
          intro i
          rw [tb_setBit, Nat.testBit_or, Nat.testBit_or, Nat.testBit_mod_two_pow, Nat.testBit_mod_two_pow]
          by_cases hij : j = i
          · subst hij; simp [hb.1]
          · rw [decide_eq_false hij, Bool.or_false]
            congr 2
            exact decide_eq_decide.2 ⟨fun q => by omega, fun q => by omega⟩
        have hlt : B ||| A % 2 ^ j < 2 ^ N := Nat.or_lt_two_pow hB (Nat.lt_of_le_of_lt (Nat.mod_le _ _) hA)
        have h1 := gain_anti N l h ((A &&& B) ||| A % 2 ^ j) (B ||| A % 2 ^ j) j hlt (by omega) (fun i hi => by
          rw [Nat.testBit_or, Nat.testBit_and] at hi
          rw [Nat.testBit_or]
          revert hi
          cases A.testBit i <;> cases B.testBit i <;> cases (A % 2 ^ j).testBit i <;> simp) (by
          rw [Nat.testBit_or, hb.2, Nat.testBit_mod_two_pow]; simp)
        rw [hset, hset]
        unfold gainL at h1
        omega
      · have hsame : ∀ C : Nat, (A.testBit j = true → C.testBit j = true) → C ||| A % 2 ^ (j + 1) = C ||| A % 2 ^ j := by
          intro C hC
          apply Nat.eq_of_testBit_eq
          intro i
          rw [Nat.testBit_or, Nat.testBit_or, Nat.testBit_mod_two_pow, Nat.testBit_mod_two_pow]
          by_cases hij : j = i
          · subst hij
            cases ha : A.testBit j with
            | false => simp
            | true => simp [hC ha]
          · have e : decide (i < j + 1) = decide (i < j) := decide_eq_decide.2 ⟨fun q => by omega, fun q => by omega⟩
            rw [e]
        have hBj : A.testBit j = true → B.testBit j = true := fun ha => by
          cases hq : B.testBit j with
          | true => rfl
          | false => exact absurd ⟨ha, hq⟩ hb
        rw [hsame B hBj, hsame (A &&& B) (fun ha => by rw [Nat.testBit_and, ha, hBj ha]; rfl)]
        exact ih
  have h1 := key N (Nat.le_refl _)
  rw [Nat.mod_eq_of_lt hA] at h1
  have e1 : B ||| A = A ||| B := Nat.or_comm _ _
  have e2 : (A &&& B) ||| A = A := by
    apply Nat.eq_of_testBit_eq
    intro i
    rw [Nat.testBit_or, Nat.testBit_and]
    cases A.testBit i <;> cases B.testBit i <;> rfl
  rw [e1, e2] at h1
  omega
/-- weights are modular -/
theorem wt_mod (x : List Int) (A B : Nat) : wt x ((A ||| B : Nat) : Int) + wt x ((A &&& B : Nat) : Int) = wt x (A : Int) + wt x (B : Int) := by
  unfold wt
  have : ∀ k, wtTo x ((A ||| B : Nat) : Int) k + wtTo x ((A &&& B : Nat) : Int) k = wtTo x (A : Int) k + wtTo x (B : Int) k := by
    intro k
    induction k with
    | zero => rfl
    | succ k ih =>
      rw [wtTo, wtTo, wtTo, wtTo]
      simp only [ibit_nbit, Nat.testBit_or, Nat.testBit_and]
      cases A.testBit k <;> cases B.testBit k <;> simp <;> omega
  exact this _
/-- sets where a vector is as great as the function -/
def Tight (l x : List Int) (s : Nat) : Prop := slackOf l x (s : Int) = 0
theorem slack_nat (l x : List Int) (s : Nat) : slackOf l x (s : Int) = l.getD s 0 - wt x (s : Int) := by unfold slackOf; rw [Int.toNat_natCast]
theorem tight_or (N : Nat) (l x : List Int) (h : Sub N l) (hb : ∀ s : Nat, s < 2 ^ N → 0 ≤ slackOf l x (s : Int)) (A B : Nat) (hA : A < 2 ^ N) (hB : B < 2 ^ N) (tA : Tight l x A) (tB : Tight l x B) : Tight l x (A ||| B) ∧ Tight l x (A &&& B) := by
  have h1 := sub_ineq N l h A B hA hB
  have h2 := wt_mod x A B
  have h3 := hb (A ||| B) (Nat.or_lt_two_pow hA hB)
  have h4 := hb (A &&& B) (Nat.lt_of_le_of_lt Nat.and_le_left hA)
  unfold Tight at tA tB ⊢
  rw [slack_nat] at *
  rw [slack_nat] at *
  omega
theorem cap_le (l x : List Int) (e : Nat) : ∀ m s : Nat, s < m → s.testBit e = true → capTo l x e m ≤ slackOf l x (s : Int) := by
  intro m
  induction m with
  | zero => intro s h; omega
  | succ m ih =>
    intro s hs hb
    rw [capTo]
    by_cases hsm : s = m
    · subst hsm
      rw [if_pos ((ibit_nbit _ _).2 hb)]; omega
    · have := ih s (by omega) hb
      split <;> omega
theorem cap_at (l x : List Int) (e : Nat) : ∀ m, capTo l x e m = 100000 ∨ ∃ s, s < m ∧ s.testBit e = true ∧ capTo l x e m = slackOf l x (s : Int) := by
  intro m
  induction m with
  | zero => exact .inl rfl
  | succ m ih =>
    rw [capTo]
    by_cases hone : ibit (m : Int) e = 1
    · rw [if_pos hone]
      by_cases hc : capTo l x e m ≤ slackOf l x (m : Int)
      · rw [show min (capTo l x e m) (slackOf l x (m : Int)) = capTo l x e m by omega]
        rcases ih with h | ⟨s, hs, hb, he⟩
        · exact .inl h
        · exact .inr ⟨s, by omega, hb, he⟩
      · exact .inr ⟨m, by omega, (ibit_nbit _ _).1 hone, by omega⟩
    · rw [if_neg hone]
      rcases ih with h | ⟨s, hs, hb, he⟩
      · exact .inl h
      · exact .inr ⟨s, by omega, hb, he⟩
/-- what the raised vector has behind k steps -/
structure Raised (N : Nat) (l x : List Int) (k : Nat) : Prop where
  len : x.length = N
  bd : ∀ y ∈ x, -2000 ≤ y ∧ y ≤ 0
  bel : ∀ s : Nat, s < 2 ^ N → 0 ≤ slackOf l x (s : Int)
  full : ∀ j, j < k → x.getD j 0 = 0 ∨ ∃ s, s < 2 ^ N ∧ s.testBit j = true ∧ Tight l x s
theorem wt_set (x : List Int) (s e : Nat) (y : Int) (he : e < x.length) : wt (x.set e y) (s : Int) = wt x (s : Int) + (if s.testBit e = true then y - x.getD e 0 else 0) := by
  unfold wt
  rw [List.length_set, wtTo_set x (s : Int) e y he _ (Nat.le_refl _)]
  congr 1
  by_cases h : s.testBit e = true
  · rw [if_pos h, if_pos ⟨he, (ibit_nbit _ _).2 h⟩]
  · rw [if_neg h, if_neg (fun q => h ((ibit_nbit _ _).1 q.2))]
theorem bel_of {N : Nat} {l x : List Int} (hg : isGrB (N : Int) l = true) (hl : l.length = 2 ^ N) {k : Nat} (h : Raised N l x k) : belB (N : Int) l x = true := by
  unfold belB isLongB allIn
  rw [hg, h.len, decide_eq_true rfl, Bool.true_and, Bool.true_and]
  have h1 : (x.all fun y => inB y (-5000) 5000) = true := by
    rw [List.all_eq_true]
    intro y hy
    have := h.bd y hy
    exact inB_true.2 ⟨by omega, by omega⟩
  rw [h1, Bool.true_and]
  have h2 : ∀ m, m ≤ 2 ^ N → belOkTo l x m = true := by
    intro m
    induction m with
    | zero => intro _; rfl
    | succ m ih =>
      intro hm
      rw [belOkTo, ih (by omega), decide_eq_true (h.bel m (by omega))]; rfl
  rw [hl]; exact h2 _ (Nat.le_refl _)
theorem raise_step (N : Nat) (l x : List Int) (hg : isGrB (N : Int) l = true) (hl : l.length = 2 ^ N) (_ : ∀ k, (hk : k < l.length) → -1000 ≤ l[k] ∧ l[k] ≤ 1000) (k : Nat) (hk : k < N) (h : Raised N l x k) :
    Raised N l (if x.getD k 0 < 0 then x.set k (min (x.getD k 0 + capN (N : Int) l x k) 0) else x) (k + 1) := by
  have hbel := bel_of hg hl h
  have hcap : capN (N : Int) l x k = capTo l x k (2 ^ N) := by
    unfold capN capB
    rw [hbel, decide_eq_true (by omega), Bool.true_and, if_pos rfl, hl]
  have hkx : k < x.length := by rw [h.len]; exact hk
  have hxk := h.bd _ (List.getElem_mem hkx)
  have hgd := getD_at x k hkx
  by_cases hneg : x.getD k 0 < 0
  · rw [if_pos hneg, hcap]
    have hcle := cap_le l x k (2 ^ N)
    have hcat := cap_at l x k (2 ^ N)
    have hc0 : 0 ≤ capTo l x k (2 ^ N) := by
      rcases hcat with e | ⟨s, hs, _, e⟩
      · rw [e]; omega
      · rw [e]; exact h.bel s hs
    obtain ⟨c, hc⟩ : ∃ c, c = capTo l x k (2 ^ N) := ⟨_, rfl⟩
    rw [← hc] at hcle hcat hc0 ⊢
    obtain ⟨y, hy⟩ : ∃ y, y = min (x.getD k 0 + c) 0 := ⟨_, rfl⟩
    rw [← hy]
    have hy0 : x.getD k 0 ≤ y ∧ y ≤ 0 ∧ y - x.getD k 0 ≤ c := by omega
    have hsl : ∀ s : Nat, slackOf l (x.set k y) (s : Int) = slackOf l x (s : Int) - (if s.testBit k = true then y - x.getD k 0 else 0) := by
      intro s
      rw [slack_nat, slack_nat, wt_set x s k y hkx]; omega
    refine ⟨by rw [List.length_set]; exact h.len, fun z hz => ?_, fun s hs => ?_, fun j hj => ?_⟩
    · rcases List.mem_or_eq_of_mem_set hz with hz | hz
      · exact h.bd z hz
      · subst hz; rw [hgd] at hy0; omega
    · have := h.bel s hs
      rw [hsl]
      by_cases hb : s.testBit k = true
      · rw [if_pos hb]
        have := hcle s hs hb
        omega
      · rw [if_neg hb]; omega
    · by_cases hjk : j = k
      · subst hjk
        by_cases hyz : y = 0
        · left
          rw [getD_at _ j (by rw [List.length_set]; exact hkx), List.getElem_set_self]; exact hyz
        · right
          have hyc : y = x.getD j 0 + c := by omega
          rcases hcat with e | ⟨s, hs, hb, e⟩
          · rw [hgd] at hyc hy0; omega
          · refine ⟨s, hs, hb, ?_⟩
            unfold Tight
            rw [hsl, if_pos hb]; omega
      · rcases h.full j (by omega) with hz | ⟨s, hs, hb, ht⟩
        · left
          rw [List.getD_eq_getElem?_getD, List.getElem?_set_ne (fun q => hjk q.symm), ← List.getD_eq_getElem?_getD]; exact hz
        · right
          refine ⟨s, hs, hb, ?_⟩
          unfold Tight at ht ⊢
          rw [hsl]
          by_cases hbk : s.testBit k = true
          · have := hcle s hs hbk
            rw [if_pos hbk]; omega
          · rw [if_neg hbk]; omega
  · rw [if_neg hneg]
    refine ⟨h.len, h.bd, h.bel, fun j hj => ?_⟩
    by_cases hjk : j = k
    · subst hjk
      left; rw [hgd] at hneg ⊢; omega
    · exact h.full j (by omega)
theorem rep_getD (N j : Nat) (v : Int) (h : j < N) : (List.replicate N v).getD j 0 = v := by rw [getD_at _ j (by simpa using h)]; simp
theorem wt_low (N : Nat) (s : Nat) : ∀ k, k ≤ N → wtTo (List.replicate N (-2000)) (s : Int) k ≤ 0 ∧ ((∃ j, j < k ∧ s.testBit j = true) → wtTo (List.replicate N (-2000)) (s : Int) k ≤ -2000) := by
  intro k
  induction k with
  | zero => intro _; exact ⟨by simp [wtTo], fun ⟨j, hj, _⟩ => by omega⟩
  | succ k ih =>
    intro hk
    obtain ⟨h1, h2⟩ := ih (by omega)
    rw [wtTo, rep_getD N k _ (by omega)]
    by_cases hb : ibit (s : Int) k = 1
    · rw [if_pos hb]
      exact ⟨by omega, fun _ => by omega⟩
    · rw [if_neg hb]
      refine ⟨h1, fun ⟨j, hj, hjb⟩ => h2 ⟨j, ?_, hjb⟩⟩
      by_cases hjk : j = k
      · subst hjk; exact absurd ((ibit_nbit _ _).2 hjb) hb
      · omega
theorem raised_0 (N : Nat) (l : List Int) (h0 : l.getD 0 0 = 0) (hl : l.length = 2 ^ N) (hlb : ∀ k, (hk : k < l.length) → -1000 ≤ l[k] ∧ l[k] ≤ 1000) : Raised N l (List.replicate N (-2000)) 0 := by
  refine ⟨by simp, fun y hy => ?_, fun s hs => ?_, fun j hj => by omega⟩
  · have := List.eq_of_mem_replicate hy; omega
  · rw [slack_nat]
    have hw := wt_low N s N (Nat.le_refl _)
    have e : wt (List.replicate N (-2000)) (s : Int) = wtTo (List.replicate N (-2000)) (s : Int) N := by unfold wt; rw [List.length_replicate]
    rw [e]
    have hls := hlb s (by omega)
    rw [getD_at l s (by omega)]
    by_cases hz : s = 0
    · subst hz
      rw [getD_at l 0 (by omega)] at h0
      omega
    · have : ∃ j, j < N ∧ s.testBit j = true := by
        obtain ⟨j, hj⟩ := Nat.exists_testBit_of_ne_zero hz
        refine ⟨j, ?_, hj⟩
        refine Nat.lt_of_not_le fun hle => ?_
        rw [Nat.testBit_lt_two_pow (Nat.lt_of_lt_of_le hs (Nat.pow_le_pow_right (by decide) hle))] at hj
        cases hj
      have := hw.2 this
      omega
/-- a submodular function that is grounded has a dual vector -/
theorem dual_raised (n : Int) (l : List Int) (h : duB n l = true) : ∃ N : Nat, n = N ∧ N ≤ 5 ∧ l.length = 2 ^ N ∧ isGrB (N : Int) l = true ∧ Sub N l ∧ dvB n l = true ∧ Raised N l (dvL n l) N := by
  have hd := h
  unfold duB at h
  rw [Bool.and_eq_true] at h
  obtain ⟨hg, hs⟩ := h
  obtain ⟨N, rfl, h5, hl, _, hlb⟩ := fun_nat (grOk hg)
  have h0 := gr_zero hg
  have hsub : Sub N l := (sub_iff N l (grOk hg)).1 hs
  have hlow : lowL (N : Int) = List.replicate N (-2000) := by unfold lowL; simp
  have hzer : zerL (N : Int) = List.replicate N 0 := by unfold zerL; simp
  have hr0 := raised_0 N l h0 hl hlb
  have hbel := bel_of hg hl hr0
  have hrb : raisB (N : Int) l (lowL (N : Int)) (zerL (N : Int)) = true := by
    unfold raisB isLongB allIn
    rw [hlow, hzer, hs, hbel]
    have h1 : ((List.replicate N (0 : Int)).all fun y => inB y (-5000) 5000) = true := by
      rw [List.all_eq_true]
      intro y hy
      have := List.eq_of_mem_replicate hy
      exact inB_true.2 ⟨by omega, by omega⟩
    rw [h1]
    simp
  have hst : ∀ k, k ≤ N → Raised N l (rvTo (N : Int) l (List.replicate N (-2000)) (List.replicate N 0) k) k := by
    intro k
    induction k with
    | zero => intro _; exact hr0
    | succ k ih =>
      intro hk
      have := raise_step N l _ hg hl hlb k hk (ih (by omega))
      rw [rvTo, rep_getD N k 0 hk]
      exact this
  refine ⟨N, rfl, h5, hl, hg, hsub, ?_, ?_⟩
  · unfold dvB; rw [hd, hrb]; rfl
  · have e : dvL (N : Int) l = rvTo (N : Int) l (List.replicate N (-2000)) (List.replicate N 0) N := by
      unfold dvL rvL
      rw [if_pos hd, if_pos hrb, hlow, hzer, List.length_replicate]
    rw [e]; exact hst N (Nat.le_refl _)
theorem wt_tail (x : List Int) (T F : Nat) (hz : ∀ j, j < x.length → F.testBit j = true → T.testBit j = false → x.getD j 0 = 0) (hTF : ∀ j, T.testBit j = true → F.testBit j = true) : wt x (F : Int) = wt x (T : Int) := by
  unfold wt
  have : ∀ k, k ≤ x.length → wtTo x (F : Int) k = wtTo x (T : Int) k := by
    intro k
    induction k with
    | zero => intro _; rfl
    | succ k ih =>
      intro hk
      rw [wtTo, wtTo, ih (by omega)]
      simp only [ibit_nbit]
      cases hF : F.testBit k with
      | false =>
        cases hT : T.testBit k with
        | false => rfl
        | true => rw [hTF k hT] at hF; cases hF
      | true =>
        cases hT : T.testBit k with
        | true => rfl
        | false =>
          have h0 := hz k (by omega) hF hT
          rw [List.getD_eq_getElem?_getD] at h0
          simp [h0]
  exact this _ (Nat.le_refl _)
theorem wt_less (x : List Int) (hx : ∀ y ∈ x, y ≤ 0) (T F : Nat) (hTF : ∀ j, T.testBit j = true → F.testBit j = true) : wt x (F : Int) ≤ wt x (T : Int) := by
  unfold wt
  have : ∀ k, k ≤ x.length → wtTo x (F : Int) k ≤ wtTo x (T : Int) k := by
    intro k
    induction k with
    | zero => intro _; exact Int.le_refl _
    | succ k ih =>
      intro hk
      have ih := ih (by omega)
      have hy := hx _ (List.getElem_mem (show k < x.length by omega))
      rw [wtTo, wtTo, getD_at x k (by omega)]
      simp only [ibit_nbit]
      cases hF : F.testBit k with
      | false =>
        cases hT : T.testBit k with
        | false => simpa using ih
        | true => rw [hTF k hT] at hF; cases hF
      | true =>
        cases hT : T.testBit k with
        | true => simp; omega
        | false => simp; omega
  exact this _ (Nat.le_refl _)
theorem lst_le (l : List Int) : ∀ m k : Nat, k < m → lstTo l m ≤ l.getD k 0 := by
  intro m
  induction m with
  | zero => intro k h; omega
  | succ m ih =>
    intro k hk
    rw [lstTo]
    by_cases h : k = m
    · subst h; omega
    · have := ih k (by omega); omega
/-- the whole weight of the dual vector is the least value -/
theorem dual_full {N : Nat} {l x : List Int} (hsub : Sub N l) (h0 : l.getD 0 0 = 0) (hl : l.length = 2 ^ N) (h : Raised N l x N) : wt x ((2 ^ N - 1 : Nat) : Int) = lstN l := by
  have hp := Nat.two_pow_pos N
  have t0 : Tight l x 0 := by
    unfold Tight
    rw [slack_nat, h0]
    have : wt x ((0 : Nat) : Int) = 0 := by
      have h1 := wt_mod x 0 0
      simp at h1
      have h2 : ∀ k, wtTo x 0 k = 0 := by
        intro k
        induction k with
        | zero => rfl
        | succ k ih => rw [wtTo, ih]; simp [ibit]
      exact h2 _
    rw [this]; omega
  have hT : ∀ k, k ≤ N → ∃ T, T < 2 ^ N ∧ Tight l x T ∧ ∀ j, j < k → x.getD j 0 = 0 ∨ T.testBit j = true := by
    intro k
    induction k with
    | zero => intro _; exact ⟨0, hp, t0, fun j hj => by omega⟩
    | succ k ih =>
      intro hk
      obtain ⟨T, hT, tT, hj⟩ := ih (by omega)
      rcases h.full k (by omega) with hz | ⟨s, hs, hb, ts⟩
      · refine ⟨T, hT, tT, fun j hjk => ?_⟩
        by_cases e : j = k
        · subst e; exact .inl hz
        · exact hj j (by omega)
      · refine ⟨T ||| s, Nat.or_lt_two_pow hT hs, (tight_or N l x hsub h.bel T s hT hs tT ts).1, fun j hjk => ?_⟩
        by_cases e : j = k
        · subst e; right; rw [Nat.testBit_or, hb]; simp
        · rcases hj j (by omega) with q | q
          · exact .inl q
          · right; rw [Nat.testBit_or, q]; rfl
  obtain ⟨T, hT, tT, hj⟩ := hT N (Nat.le_refl _)
  have hTF : ∀ s : Nat, s < 2 ^ N → ∀ j, s.testBit j = true → (2 ^ N - 1).testBit j = true := fun s hs j hsj => by
    rw [Nat.testBit_two_pow_sub_one]
    refine decide_eq_true (Nat.lt_of_not_le fun hle => ?_)
    rw [Nat.testBit_lt_two_pow (Nat.lt_of_lt_of_le hs (Nat.pow_le_pow_right (by decide) hle))] at hsj
    cases hsj
  have h1 : wt x ((2 ^ N - 1 : Nat) : Int) = wt x (T : Int) := wt_tail x T (2 ^ N - 1) (fun j hjl _ hTj => by
    rcases hj j (by rw [← h.len]; exact hjl) with q | q
    · exact q
    · rw [q] at hTj; cases hTj) (hTF T hT)
  have h2 : wt x (T : Int) = l.getD T 0 := by
    unfold Tight at tT
    rw [slack_nat] at tT; omega
  obtain ⟨i, hi, he⟩ := lst_at l (by omega) l.length (Nat.le_refl _)
  have h3 := wt_less x (fun y hy => (h.bd y hy).2) i (2 ^ N - 1) (hTF i (by omega))
  have h4 := h.bel i (by omega)
  rw [slack_nat] at h4
  have h5 := lst_le l l.length T (by omega)
  unfold lstN at *
  omega
end Go.Proofs.YtipejodijbjpcaaGreatDoor
end
