/- Least values and where they are taken. -/
import Derived.Test.YtelmokapdkepbaaGreatDoorQ17
section
namespace Go.Proofs.YtelmokapdkepbaaGreatDoor
open Go.RowKit Go.G5

def lstTo (l : List Int) : Nat → Int
  | 0 => l.getD 0 0
  | k + 1 => min (lstTo l k) (l.getD k 0)
def lstN (l : List Int) : Int := lstTo l l.length
def mzTo (l : List Int) (m : Int) : Nat → List Int
  | 0 => []
  | k + 1 => if l.getD k 0 = m then mzTo l m k ++ [(k : Int)] else mzTo l m k
def mzL (n : Int) (l : List Int) : List Int := if isFunB n l then mzTo l (lstN l) l.length else []
def lmTo (M : Int) (q : List Int) : Nat → Int
  | 0 => M
  | k + 1 => iand (lmTo M q k) (q.getD k 0)
def lmN (n : Int) (l : List Int) : Int := if subB n l then lmTo (2 ^ n.toNat - 1) (mzL n l) (mzL n l).length else 0
def minN (n : Int) (l : List Int) : Int := if isFunB n l then lstN l else 0
theorem lst_one (l : List Int) : lstTo l 1 = l.getD 0 0 := by show min (l.getD 0 0) (l.getD 0 0) = _; omega
theorem lst_at (l : List Int) (h : 0 < l.length) : ∀ k, k ≤ l.length → ∃ i, i < l.length ∧ l.getD i 0 = lstTo l k := by
  intro k
  induction k with
  | zero => intro _; exact ⟨0, h, rfl⟩
  | succ k ih =>
    intro hk
    obtain ⟨i, hi, he⟩ := ih (by omega)
    rw [lstTo]
    by_cases hc : lstTo l k ≤ l.getD k 0
    · exact ⟨i, hi, by omega⟩
    · exact ⟨k, by omega, by omega⟩
theorem mz_mem (l : List Int) (m : Int) : ∀ k, ∀ s ∈ mzTo l m k, 0 ≤ s ∧ s < k := by
  intro k
  induction k with
  | zero => intro s h; simp [mzTo] at h
  | succ k ih =>
    intro s h
    rw [mzTo] at h
    by_cases hc : l.getD k 0 = m
    · rw [if_pos hc] at h
      rcases List.mem_append.1 h with h | h
      · have := ih s h; omega
      · have := List.mem_singleton.1 h; omega
    · rw [if_neg hc] at h
      have := ih s h; omega
theorem mz_len (l : List Int) (m : Int) : ∀ k, (mzTo l m k).length ≤ k := by
  intro k
  induction k with
  | zero => simp [mzTo]
  | succ k ih =>
    rw [mzTo]
    split
    · simp; omega
    · omega
theorem mz_ne (l : List Int) (m : Int) (i : Nat) (hi : l.getD i 0 = m) : ∀ k, i < k → mzTo l m k ≠ [] := by
  intro k
  induction k with
  | zero => intro h; omega
  | succ k ih =>
    intro hk
    rw [mzTo]
    by_cases hc : l.getD k 0 = m
    · rw [if_pos hc]; simp
    · rw [if_neg hc]
      have : i ≠ k := fun e => hc (e ▸ hi)
      exact ih (by omega)
theorem mzL_facts {n : Int} {l : List Int} (h : isFunB n l = true) : mzL n l ≠ [] ∧ (mzL n l).length ≤ 32 ∧ ∀ s ∈ mzL n l, 0 ≤ s ∧ s < 2 ^ n.toNat ∧ s < 64 := by
  obtain ⟨N, rfl, hN5, hl2, hl32, _⟩ := fun_nat h
  have hx : mzL (N : Int) l = mzTo l (lstN l) l.length := by unfold mzL; rw [h]; rfl
  have hpos : 0 < l.length := by rw [hl2]; exact Nat.two_pow_pos N
  rw [hx]
  obtain ⟨i, hi, he⟩ := lst_at l hpos l.length (Nat.le_refl _)
  refine ⟨mz_ne l (lstN l) i he l.length hi, Nat.le_trans (mz_len l _ _) hl32, fun s hs => ?_⟩
  have := mz_mem l _ _ s hs
  have h4 : ((2 ^ N : Nat) : Int) = (2 : Int) ^ N := by push_cast; rfl
  simp only [Int.toNat_natCast]
  omega

set_option maxHeartbeats 400000 in
theorem sliceMin_any (l : List Int) (v : Value) (w : World) (hv : Ints w v l) (hpos : 0 < l.length) :
    Calls Tryz.prog 78 #[v] w fun e w' => e = .returned (.int .i64 (lstN l)) ∧ w = w' := by
  obtain ⟨a, b, off, c, rfl, hlen, hix, hc, hb⟩ := hv.view Tryz.prog 22 3 Tryz.underlying22 intElem
  have h1 : ¬ (l.length : Int) < 1 := by omega
  have i0 : ∀ W, (Instr.indexAt 22 (.slice a l.length c) (.int .i64 0)).run Tryz.prog W = .ok (.pointer (some ⟨b, off, none⟩)) W := fun W => hix W 0 hpos
  have c0 : w.cell? ⟨b, off, none⟩ = some (.int .i64 (l.getD 0 0)) := by rw [getD_at l 0 hpos]; exact hc 0 hpos
  go_enter Tryz.func78, Tryz.ntmps78
  go_wp2
  go_loop [3, 4] (fun m i => ∃ k : Nat, 1 ≤ k ∧ k ≤ l.length ∧ i = .int .i64 k ∧ m = .int .i64 (lstTo l k)) (fun _ i => l.length - (intOf i).toNat)
  case atStart => exact ⟨1, Nat.le_refl _, hpos, rfl, by rw [lst_one, getD_at l 0 hpos]⟩
  case round =>
    obtain ⟨k, hk1, hk, rfl, rfl⟩ := hrel
    by_cases hlt : k < l.length
    · have hck := hc k hlt
      have hik := fun W => hix W k hlt
      have hn : lstTo l (k + 1) = min (lstTo l k) l[k] := by rw [lstTo, getD_at l k hlt]
      obtain ⟨p, hp⟩ : ∃ p, p = l[k] := ⟨_, rfl⟩
      obtain ⟨q, hq⟩ : ∃ q, q = lstTo l k := ⟨_, rfl⟩
      rw [← hp] at hck hn
      rw [← hq] at hn ⊢
      have HN := Lib.hid hn
      clear hn hp hq hc hix
      go_wp2
      go_round
      case rel => exact ⟨k + 1, by omega, by omega, by go_num, by rw [HN.out] <;> (congr 1 <;> (split <;> omega))⟩
      case measure => simp [intOf]; omega
    · have hkl : k = l.length := by omega
      have HK := Lib.hid hkl
      clear hkl
      go_wp2
      go_ret
      exact ⟨ret_int (by rw [HK.out]; rfl), rfl⟩

set_option maxHeartbeats 400000 in
theorem minimumI_any (w : World) (n : Int) (v : Value) (l : List Int) (hv : Ints w v l) :
    Calls Tryz.prog 29 #[.agg #[.int .i64 n, v]] w fun e w' => e = .returned (.tuple #[.int .i64 (minN n l), .bool (isFunB n l)]) ∧ Below w.heap.size w w' := by
  obtain ⟨a, c, rfl⟩ := hv.shape
  go_enter Tryz.func29, Tryz.ntmps29
  go_wp2_with fail
  refine calls_named ?_
  intro V hV
  have B : Below w.heap.size w V := by rw [hV]; exact bl1 _ _
  have K : Blk V w.heap.size 27 #[.int .i64 n, .slice a l.length c] := by rw [hV]; exact Blk.new _ _ _
  clear hV
  refine (isFunI_any n l _ V (hv.below B (Nat.le_refl _))).mono ?_
  rintro e w1 ⟨rfl, b1⟩
  have K := K.keep b1
  have B := B.after b1 B.size
  have G := K.cell
  cases hf : isFunB n l with
  | false =>
    have hx : minN n l = 0 := by unfold minN; rw [hf]; rfl
    have HX := Lib.hid (And.intro hx hf)
    clear hx hf
    go_wp2
    go_ret2
    exact ⟨by rw [HX.out.1, HX.out.2]; rfl, B⟩
  | true =>
    have hx : minN n l = lstN l := by unfold minN; rw [hf]; rfl
    have hpos : 0 < l.length := by
      obtain ⟨N, rfl, _, hl2, _⟩ := fun_nat hf
      rw [hl2]; exact Nat.two_pow_pos N
    have HX := Lib.hid (And.intro hx hf)
    have HM := Lib.hid (sliceMin_any l _ w1 (hv.below B (Nat.le_refl _)) hpos)
    clear hx hf
    go_wp2_with (go_at_call 78; refine HM.out.mono ?_; rintro e w' ⟨rfl, rfl⟩)
    go_ret2
    exact ⟨by rw [HX.out.1, HX.out.2]; rfl, B⟩

set_option maxHeartbeats 400000 in
theorem l10Least_any (w : World) (n : Int) (v : Value) (l : List Int) (hv : Ints w v l) (hpos : 0 < l.length) :
    Calls Tryz.prog 21 #[.agg #[.int .i64 n, v]] w fun e w' => e = .returned (.int .i64 (lstN l)) ∧ Below w.heap.size w w' := by
  obtain ⟨a, b, off, c, rfl, hlen, hix, hc, hb⟩ := hv.view Tryz.prog 22 3 Tryz.underlying22 intElem
  have hc1 := cells_below hc hb (bl1 w (.cells #[.int .i64 n, .slice a l.length c] 27)) (Nat.le_refl _)
  have i0 : ∀ W, (Instr.indexAt 22 (.slice a l.length c) (.int .i64 0)).run Tryz.prog W = .ok (.pointer (some ⟨b, off, none⟩)) W := fun W => hix W 0 hpos
  have c0 : (w.alloc (.cells #[.int .i64 n, .slice a l.length c] 27)).cell? ⟨b, off, none⟩ = some (.int .i64 (l.getD 0 0)) := by rw [getD_at l 0 hpos]; exact hc1 0 hpos
  go_enter Tryz.func21, Tryz.ntmps21
  go_wp2
  go_loop [3, 4] (fun m i => ∃ k : Nat, 1 ≤ k ∧ k ≤ l.length ∧ i = .int .i64 k ∧ m = .int .i64 (lstTo l k)) (fun _ i => l.length - (intOf i).toNat)
  case atStart => exact ⟨1, Nat.le_refl _, hpos, rfl, by rw [lst_one, getD_at l 0 hpos]⟩
  case round =>
    obtain ⟨k, hk1, hk, rfl, rfl⟩ := hrel
    by_cases hlt : k < l.length
    · have hck := hc1 k hlt
      have hik := fun W => hix W k hlt
      have hn : lstTo l (k + 1) = min (lstTo l k) l[k] := by rw [lstTo, getD_at l k hlt]
      obtain ⟨p, hp⟩ : ∃ p, p = l[k] := ⟨_, rfl⟩
      obtain ⟨q, hq⟩ : ∃ q, q = lstTo l k := ⟨_, rfl⟩
      rw [← hp] at hck hn
      rw [← hq] at hn ⊢
      have HN := Lib.hid hn
      clear hn hp hq hc hc1 hix
      go_wp2
      go_round
      case rel => exact ⟨k + 1, by omega, by omega, by go_num, by rw [HN.out] <;> (congr 1 <;> (split <;> omega))⟩
      case measure => simp [intOf]; omega
    · have hkl : k = l.length := by omega
      have HK := Lib.hid hkl
      clear hkl
      go_wp2
      go_ret
      exact ⟨ret_int (by rw [HK.out]; rfl), bl1 _ _⟩

set_option maxHeartbeats 1000000 in
set_option maxRecDepth 100000 in
theorem minimizersI_any (w : World) (n : Int) (v : Value) (l : List Int) (hv : Ints w v l) :
    Calls Tryz.prog 30 #[.agg #[.int .i64 n, v]] w fun e w' => ∃ ad i c, e = .returned (.tuple #[.slice ad i c, .bool (isFunB n l)]) ∧ OwnI 3 w.heap.size w' (.slice ad i c) (mzL n l) ∧ Below w.heap.size w w' := by
  obtain ⟨a, b, off, c, rfl, hlen, hix, hc, hb⟩ := hv.view Tryz.prog 22 3 Tryz.underlying22 intElem
  go_enter Tryz.func30, Tryz.ntmps30
  go_wp2_with fail
  refine calls_named ?_
  intro V hV
  have B : Below w.heap.size w V := by rw [hV]; exact bl1 _ _
  have K : Blk V w.heap.size 27 #[.int .i64 n, .slice a l.length c] := by rw [hV]; exact Blk.new _ _ _
  clear hV
  refine (minimumI_any V n _ l (hv.below B (Nat.le_refl _))).mono ?_
  rintro e w1 ⟨rfl, b1⟩
  have K := K.keep b1
  have B := B.after b1 B.size
  have G := K.cell
  cases hf : isFunB n l with
  | false =>
    have hx : mzL n l = [] := by unfold mzL; rw [hf]; rfl
    have HX := Lib.hid (And.intro hx hf)
    clear hx hf
    go_wp2
    go_ret2
    exact ⟨none, 0, 0, by rw [HX.out.2]; rfl, by rw [HX.out.1]; exact OwnI.nil _ _ _, B⟩
  | true =>
    have hx : mzL n l = mzTo l (lstN l) l.length := by unfold mzL; rw [hf]; rfl
    have hm : minN n l = lstN l := by unfold minN; rw [hf]; rfl
    have hl32 : l.length ≤ 32 := by
      obtain ⟨N, rfl, _, _, h, _⟩ := fun_nat hf
      exact h
    obtain ⟨M, hM⟩ : ∃ M, M = lstN l := ⟨_, rfl⟩
    rw [hm, ← hM]
    have HM := Lib.hid hM
    have HX := Lib.hid (And.intro hx hf)
    clear hx hf hm hM
    go_wp2_with fail
    go_loopw [6, 19] (fun out i wr => ∃ (k : Nat) (ad : Option Addr) (nn cp : Nat), k ≤ l.length ∧ out = .slice ad nn cp ∧ i = .int .i64 k ∧ OwnI 3 w.heap.size wr (.slice ad nn cp) (mzTo l (lstN l) k) ∧ Below w.heap.size w wr) (fun _ i _ => l.length - (intOf i).toNat)
    case atStart => exact ⟨0, none, 0, 0, Nat.zero_le _, rfl, rfl, OwnI.nil _ _ _, B⟩
    case round =>
      obtain ⟨k, ad, nn, cp, hk, rfl, rfl, ho, Br⟩ := hrel
      have HO := Lib.hid ho
      clear ho
      by_cases hlt : k < l.length
      · have hlt2 : (k : Int) < (l.length : Int) := by omega
        have hck := cells_below hc hb Br (Nat.le_refl _) k hlt
        have hik := fun W => hix W k hlt
        have hn : mzTo l (lstN l) (k + 1) = if l[k] = M then mzTo l (lstN l) k ++ [(k : Int)] else mzTo l (lstN l) k := by rw [mzTo, getD_at l k hlt, HM.out]
        obtain ⟨y, hy⟩ : ∃ y, y = l[k] := ⟨_, rfl⟩
        rw [← hy] at hck hn
        have HN := Lib.hid hn
        clear hn hy
        by_cases hye : y = M
        · have hbe : (y == M) = true := by simp [hye]
          have HYE := Lib.hid hye
          clear hye
          have o4 := HO.out
          have r4 := o4.lt
          have zr := Br.size
          go_wp2_with (at_builtin; refine wpList_appendI rfl _ _ _ rfl 3 Tryz.underlying22 intElem w.heap.size _ _ (k : Int) wr.heap.size rfl rfl (by simp) (o4.alloc _) ⟨by omega, by omega⟩ (by have := mz_len l (lstN l) k; omega) (by simp; omega) ?_; intro v' w6 hown hgr; obtain ⟨av, nv, cv, rfl⟩ := hown.shape3)
          have B6 : Below w.heap.size w w6 := (Br.alloc Br.size (.cells #[.int .i64 (k : Int)] 3)).grown hgr (by simp; omega) (fun q hq => (r4 q hq).1)
          go_roundw
          case rel => exact ⟨k + 1, av, nv, cv, by omega, rfl, by go_num, by rw [HN.out, if_pos HYE.out]; exact hown, B6⟩
          case measure => simp [intOf]; omega
        · have hbe : (y == M) = false := by simp [hye]
          have HYE := Lib.hid hye
          clear hye
          go_wp2
          go_roundw
          case rel => exact ⟨k + 1, ad, nn, cp, by omega, rfl, by go_num, by rw [HN.out, if_neg HYE.out]; exact HO.out, Br⟩
          case measure => simp [intOf]; omega
      · have hlt2 : ¬ (k : Int) < (l.length : Int) := by omega
        have hkl : k = l.length := by omega
        have ho := HO.out
        rw [hkl, ← HX.out.1] at ho
        have HO := Lib.hid ho
        clear hkl ho
        go_wp2
        go_ret2
        exact ⟨ad, nn, cp, by rw [HX.out.2]; rfl, HO.out, Br⟩
set_option maxHeartbeats 1000000 in
set_option maxRecDepth 100000 in
theorem minimizersS_any (w : World) (n : Int) (v : Value) (l : List Int) (hv : Ints w v l) :
    Calls Tryz.prog 17 #[.agg #[.int .i64 n, v]] w fun e w' => ∃ ad i c, e = .returned (.tuple #[.slice ad i c, .bool (isFunB n l)]) ∧ OwnI 3 w.heap.size w' (.slice ad i c) (mzL n l) ∧ Below w.heap.size w w' := by
  obtain ⟨a, b, off, c, rfl, hlen, hix, hc, hb⟩ := hv.view Tryz.prog 22 3 Tryz.underlying22 intElem
  obtain ⟨V, hV⟩ : ∃ V, V = (w.alloc (.cells #[.int .i64 n, .slice a l.length c] 27)).alloc (.cells #[] 3) := ⟨_, rfl⟩
  have B : Below w.heap.size w V := by rw [hV]; exact bl2 _ _ _
  have K : Blk V w.heap.size 27 #[.int .i64 n, .slice a l.length c] := by rw [hV]; exact (Blk.new _ _ _).alloc _
  have o0 : OwnI 3 (w.heap.size + 1) V (.slice (some ⟨w.heap.size + 1, 0, none⟩) 0 0) [] := by rw [hV]; have := OwnI.lit0 (E := 3) (B := w.heap.size + 1) (w.alloc (.cells #[.int .i64 n, .slice a l.length c] 27)) (by simp); simpa using this
  go_enter Tryz.func17, Tryz.ntmps17
  go_wp2_with fail
  rw [← hV]
  clear hV
  go_loopw [4, 5] (fun out i wr => ∃ (k : Nat) (ad : Option Addr) (nn cp : Nat), k ≤ l.length ∧ out = .slice ad nn cp ∧ i = .int .i64 k ∧ OwnI 3 (w.heap.size + 1) wr (.slice ad nn cp) (mzTo l (lstN l) k) ∧ Blk wr w.heap.size 27 #[.int .i64 n, .slice a l.length c] ∧ Below w.heap.size w wr ∧ (isFunB n l = false → k = 0)) (fun _ i _ => l.length - (intOf i).toNat)
  case atStart => exact ⟨0, _, _, _, Nat.zero_le _, rfl, rfl, o0, K, B, fun _ => rfl⟩
  case round =>
    obtain ⟨k, ad, nn, cp, hk, rfl, rfl, ho, Kr, Br, hz⟩ := hrel
    clear o0 K B
    have HO := Lib.hid ho
    have HZ := Lib.hid hz
    have G := Kr.cell
    clear ho hz
    go_wp2_with fail
    clear G
    refine (isFunS_any n l _ wr (hv.below Br (Nat.le_refl _))).mono ?_
    rintro e w1 ⟨rfl, b1⟩
    have K1 := Kr.keep b1
    have B1 := Br.after b1 Br.size
    have o1 := HO.out.keep b1
    have G := K1.cell
    clear Kr
    cases hf : isFunB n l with
    | false =>
      have hx : mzL n l = [] := by unfold mzL; rw [hf]; rfl
      rw [HZ.out hf] at o1
      have HX := Lib.hid (And.intro hx hf)
      clear hx hf
      have HFF := Lib.hid (isFunS_any n l _ w1 (hv.below B1 (Nat.le_refl _)))
      go_wp2_with (go_at_call 16; refine HFF.out.mono ?_; rintro e w2 ⟨rfl, b2⟩)
      go_ret2
      exact ⟨ad, nn, cp, rfl, by rw [HX.out.1]; exact (o1.keep b2).mono (by omega), B1.after b2 B1.size⟩
    | true =>
      have hx : mzL n l = mzTo l (lstN l) l.length := by unfold mzL; rw [hf]; rfl
      have hl32 : l.length ≤ 32 := by
        obtain ⟨N, rfl, _, _, h, _⟩ := fun_nat hf
        exact h
      have HX := Lib.hid (And.intro hx hf)
      clear hx
      by_cases hlt : k < l.length
      · have hlt2 : (k : Int) < (l.length : Int) := by omega
        have HLE := Lib.hid (fun y : Ext w1 => l10Least_any y.w n _ l (y.ints (hv.below B1 (Nat.le_refl _))) (by omega))
        have hck := cells_below hc hb B1 (Nat.le_refl _) k hlt
        have hik := fun W => hix W k hlt
        have hn : mzTo l (lstN l) (k + 1) = if l[k] = lstN l then mzTo l (lstN l) k ++ [(k : Int)] else mzTo l (lstN l) k := by rw [mzTo, getD_at l k hlt]
        obtain ⟨y, hy⟩ : ∃ y, y = l[k] := ⟨_, rfl⟩
        rw [← hy] at hck hn
        obtain ⟨M, hM⟩ : ∃ M, M = lstN l := ⟨_, rfl⟩
        have hn2 : mzTo l (lstN l) (k + 1) = if y = M then mzTo l (lstN l) k ++ [(k : Int)] else mzTo l (lstN l) k := by rw [hn, hM]
        rw [← hM] at HLE
        have HN := Lib.hid hn2
        have O1 := Lib.hid o1
        have hyk : ∀ x : Ext w1, x.w.cell? ⟨b, off + k, none⟩ = some (.int .i64 y) := fun x => x.cell hck
        have c0 : ∀ x : Ext w1, x.w.cell? ⟨w.heap.size, 0, none⟩ = some (.int .i64 n) := fun x => x.cell (K1.cell 0)
        have c1 : ∀ x : Ext w1, x.w.cell? ⟨w.heap.size, 1, none⟩ = some (.slice a l.length c) := fun x => x.cell (K1.cell 1)
        clear hn hy hn2 hM hc hix o1 hck hf
        by_cases hye : y = M
        · have hbe : (y == M) = true := by simp [hye]
          have HYE := Lib.hid hye
          clear hye
          go_wp2_with fail
          refine wp_region_ext _ (by kernel_rfl) (by kernel_rfl) ?_
          repeat (first | go_big_quiet_skip | (go_big_quiet_want; go_big_quiet_op; first | go_big_quiet_on | (apply Exists.intro; refine ⟨fun _ => ?_, ?_⟩; (go_at_call 21; exact ext_call (HLE.out _)); go_big_quiet_on)))
          refine wpQuiet_nil ?_
          rintro w3 ⟨⟨w3, hb3⟩, rfl⟩
          try dsimp only
          have K3 := K1.keep hb3
          have B3 := B1.after hb3 B1.size
          have o3 := O1.out.keep hb3
          have r3 := o3.lt
          have z3 := K3.lt
          clear G hyk c0 c1
          go_wp2_with (at_builtin; refine wpList_appendI rfl _ _ _ rfl 3 Tryz.underlying22 intElem (w.heap.size + 1) _ _ (k : Int) w3.heap.size rfl rfl (by simp) (o3.alloc _) ⟨by omega, by omega⟩ (by have := mz_len l (lstN l) k; omega) (by simp; omega) ?_; intro v' w6 hown hgr; obtain ⟨av, nv, cv, rfl⟩ := hown.shape3)
          have B6 : Below w.heap.size w w6 := (B3.alloc B3.size (.cells #[.int .i64 (k : Int)] 3)).grown hgr (by simp; omega) (fun q hq => by have := (r3 q hq).1; omega)
          have K6 := (K3.alloc (.cells #[.int .i64 (k : Int)] 3)).grow hgr (fun e => by have := (r3 _ e).1; omega)
          go_roundw
          case rel => exact ⟨k + 1, av, nv, cv, by omega, rfl, by go_num, by rw [HN.out, if_pos HYE.out]; exact hown, K6, B6, fun h => by rw [HX.out.2] at h; cases h⟩
          case measure => simp [intOf]; omega
        · have hbe : (y == M) = false := by simp [hye]
          have HYE := Lib.hid hye
          clear hye
          go_wp2_with fail
          refine wp_region_ext _ (by kernel_rfl) (by kernel_rfl) ?_
          repeat (first | go_big_quiet_skip | (go_big_quiet_want; go_big_quiet_op; first | go_big_quiet_on | (apply Exists.intro; refine ⟨fun _ => ?_, ?_⟩; (go_at_call 21; exact ext_call (HLE.out _)); go_big_quiet_on)))
          refine wpQuiet_nil ?_
          rintro w3 ⟨⟨w3, hb3⟩, rfl⟩
          try dsimp only
          go_wp2
          go_roundw
          case rel => exact ⟨k + 1, ad, nn, cp, by omega, rfl, by go_num, by rw [HN.out, if_neg HYE.out]; exact O1.out.keep hb3, K1.keep hb3, B1.after hb3 B1.size, fun h => by rw [HX.out.2] at h; cases h⟩
          case measure => simp [intOf]; omega
      · have hlt2 : ¬ (k : Int) < (l.length : Int) := by omega
        have hkl : k = l.length := by omega
        rw [hkl, ← HX.out.1] at o1
        have O1 := Lib.hid o1
        have HFF := Lib.hid (isFunS_any n l _ w1 (hv.below B1 (Nat.le_refl _)))
        clear hkl o1 hf
        go_wp2_with (go_at_call 16; refine HFF.out.mono ?_; rintro e w2 ⟨rfl, b2⟩)
        go_ret2
        exact ⟨ad, nn, cp, rfl, (O1.out.keep b2).mono (by omega), B1.after b2 B1.size⟩
end Go.Proofs.YtelmokapdkepbaaGreatDoor
end
