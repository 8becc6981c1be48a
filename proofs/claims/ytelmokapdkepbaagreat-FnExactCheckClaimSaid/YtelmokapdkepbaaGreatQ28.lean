/- The gains along an order: the second program. The checks of claims: best bases, single values, common sets, minima, cuts, sunflowers: the first program. The checks of claims: minima, cuts, sunflowers: the first program. -/
import Derived.Test.YtelmokapdkepbaaGreatQ27
section
namespace Go.Proofs.YtelmokapdkepbaaGreat
open Go.RowKit Go.G5

def mxX (l x : List Int) : List Int := cornerL l (ordN x x.length)
def maxN (n : Int) (l x : List Int) : Int := if optB n l x then prodTo x (mxX l x) x.length else 0
def maxL (n : Int) (l x : List Int) : List Int := if optB n l x then mxX l x else []
theorem opt_fun {n : Int} {l x : List Int} (h : optB n l x = true) : x.length ≤ 5 ∧ n = (x.length : Int) ∧ l.length = 2 ^ x.length ∧ l.length ≤ 32 ∧ (∀ k, (hk : k < l.length) → -1000 ≤ l[k] ∧ l[k] ≤ 1000) ∧ (∀ y ∈ x, -1000 ≤ y ∧ y ≤ 1000) := by
  unfold optB vecB at h
  simp only [Bool.and_eq_true, decide_eq_true_eq] at h
  obtain ⟨⟨h1, _⟩, ⟨h2, h3⟩, h4⟩ := h
  obtain ⟨N, rfl, hN5, hl2, hl32, hlb⟩ := fun_nat (grOk h1)
  have : x.length = N := by omega
  unfold allIn at h3
  rw [List.all_eq_true] at h3
  exact ⟨h2, h4.symm, by rw [this]; exact hl2, hl32, hlb, fun y hy => inB_true.1 (h3 y hy)⟩
theorem cornerTo_bd (l o : List Int) (hl : l.length = 2 ^ o.length) (hlb : ∀ k, (hk : k < l.length) → -1000 ≤ l[k] ∧ l[k] ≤ 1000) (ho : ∀ x ∈ o, 0 ≤ x ∧ x < o.length) : ∀ k, k ≤ o.length → ∀ y ∈ cornerTo l o k, -2000 ≤ y ∧ y ≤ 2000 := by
  intro k
  induction k with
  | zero =>
    intro _ y hy
    rw [cornerTo] at hy
    have := List.eq_of_mem_replicate hy
    omega
  | succ k ih =>
    intro hk y hy
    rw [cornerTo] at hy
    rcases List.mem_or_eq_of_mem_set hy with hy | hy
    · exact ih (by omega) y hy
    · have hm := ho _ (List.getElem_mem (show k < o.length by omega))
      have hg : o.getD k 0 = o[k] := by rw [List.getD_eq_getElem?_getD, List.getElem?_eq_getElem (by omega)]; rfl
      have hp := prefS_lt o o.length k ho (by omega)
      rw [hg] at hy
      have hse := setBit_lt (prefS o k) o[k].toNat o.length hp (by omega)
      rw [hy]
      exact gainL_bd l _ _ (by omega) (by omega) hlb
theorem mxX_bd {n : Int} {l x : List Int} (h : optB n l x = true) : (mxX l x).length = x.length ∧ ∀ k, (hk : k < (mxX l x).length) → -2000 ≤ (mxX l x)[k] ∧ (mxX l x)[k] ≤ 2000 := by
  obtain ⟨h5, _, hl, _, hlb, _⟩ := opt_fun h
  have ho := ordN_len x x.length
  refine ⟨?_, fun k hk => cornerTo_bd l _ (by rw [ho]; exact hl) hlb (by rw [ho]; exact ordN_mem x x.length) _ (Nat.le_refl _) _ (List.getElem_mem hk)⟩
  unfold mxX cornerL
  rw [cornerTo_len, ho]

def bestL (n : Int) (l x : List Int) : List Int := if optB n l x then ordN x x.length else []
end Go.Proofs.YtelmokapdkepbaaGreat
end
section
namespace Go.Proofs.YtelmokapdkepbaaGreat
open Go.RowKit Go.G5

theorem all_false_k {α : Type} (p : α → Bool) (l : List α) (k : Nat) (h : k < l.length) (hp : p l[k] = false) : l.all p = false := by
  rw [List.all_eq_false]
  exact ⟨l[k], List.getElem_mem h, by rw [hp]; simp⟩
theorem base_bel {n : Int} {l x : List Int} (h : baseB n l x = true) : belB n l x = true := by
  unfold baseB at h
  rw [Bool.and_eq_true] at h
  exact h.1
set_option maxHeartbeats 1000000 in
set_option maxRecDepth 100000 in
theorem bestI_any (w : World) (n : Int) (v : Value) (l : List Int) (hv : Ints w v l) (hl : l.length ≤ 1048576) (u : Value) (x : List Int) (hu : Ints w u x) (vy : Value) (y : List Int) (hy : Ints w vy y) :
    Calls Tryz.prog 68 #[.agg #[.int .i64 n, v], u, vy] w fun e w' => e = .returned (.bool (bestB n l x y)) ∧ Below w.heap.size w w' := by
  obtain ⟨a, c, rfl⟩ := hv.shape
  obtain ⟨au, cu, rfl⟩ := hu.shape
  obtain ⟨ay, cy, rfl⟩ := hy.shape
  have K0 := Blk.new w 31 #[.int .i64 n, .slice a l.length c]
  cases ho : optB n l x with
  | false =>
    have hx : bestB n l x y = false := by unfold bestB; rw [ho]; rfl
    have HX := Lib.hid hx
    have HO := Lib.hid ho
    clear hx ho
    go_enter Tryz.func68, Tryz.ntmps68
    go_wp2_with fail
    refine (canOptI_any _ n _ l (hv.alloc _) hl _ x (hu.alloc _)).mono ?_
    rintro e w1 ⟨rfl, b1⟩
    rw [HO.out]
    go_wp2
    go_ret
    exact ⟨ret_bool HX.out.symm, (bl1 _ _).after b1 (by simp)⟩
  | true =>
    cases hb : baseB n l y with
    | false =>
      have hx : bestB n l x y = false := by unfold bestB; rw [hb, Bool.and_false]; rfl
      have HX := Lib.hid hx
      have HO := Lib.hid ho
      have HB := Lib.hid hb
      clear hx ho hb
      go_enter Tryz.func68, Tryz.ntmps68
      go_wp2_with fail
      refine (canOptI_any _ n _ l (hv.alloc _) hl _ x (hu.alloc _)).mono ?_
      rintro e w1 ⟨rfl, b1⟩
      rw [HO.out]
      have B1 : Below w.heap.size w w1 := (bl1 _ _).after b1 (by simp)
      have G := (K0.keep b1).cell
      go_wp2_with fail
      refine (isBaseI_any _ n _ l (hv.below B1 (Nat.le_refl _)) _ y (hy.below B1 (Nat.le_refl _))).mono ?_
      rintro e w2 ⟨rfl, b2⟩
      rw [HB.out]
      go_wp2
      go_ret
      exact ⟨ret_bool HX.out.symm, B1.after b2 B1.size⟩
    | true =>
      obtain ⟨h5, hn, hl2, hl32, hlb, hxb⟩ := opt_fun ho
      obtain ⟨_, hlg⟩ := bel_parts (base_bel hb)
      obtain ⟨hyn, hyb⟩ := longOk hlg
      have hsm := lsL_mem x x.length rfl
      have hx : bestB n l x y = (lsL x).all (fun s => slackOf l y s == 0) := by unfold bestB tightAll; rw [ho, hb]; rfl
      have hlv := fun W (h : Ints W (.slice au x.length cu) x) => levelsOf_any x _ W h h5 hxb
      have hs32 : ∀ s ∈ lsL x, 0 ≤ s ∧ s < (l.length : Int) := fun s h3 => by
        have h4 := hsm s h3
        have e : ((2 : Int) ^ x.length) = ((2 ^ x.length : Nat) : Int) := by simp
        omega
      have hsl := fun (W : World) (s : Int) (h1 : Ints W (.slice a l.length c) l) (h2 : Ints W (.slice ay y.length cy) y) (h3 : s ∈ lsL x) => slack_any n l _ y _ s W h1 h2 (hs32 s h3).1 (hs32 s h3).2 (by omega) hlb hyb (by omega)
      obtain ⟨T, hT⟩ : ∃ T, T = lsL x := ⟨_, rfl⟩
      rw [← hT] at hx
      simp only [← hT] at hlv hsl
      have HX := Lib.hid hx
      have HO := Lib.hid ho
      have HB := Lib.hid hb
      have HLV := Lib.hid hlv
      have HSL := Lib.hid hsl
      clear hx ho hb hlv hsl hT hsm hlb hxb hyb hyn hl2 hn hlg hs32
      go_enter Tryz.func68, Tryz.ntmps68
      go_wp2_with fail
      refine (canOptI_any _ n _ l (hv.alloc _) hl _ x (hu.alloc _)).mono ?_
      rintro e w1 ⟨rfl, b1⟩
      rw [HO.out]
      have B1 : Below w.heap.size w w1 := (bl1 _ _).after b1 (by simp)
      have K1 := K0.keep b1
      clear K0 b1
      have G := K1.cell
      go_wp2_with fail
      refine (isBaseI_any _ n _ l (hv.below B1 (Nat.le_refl _)) _ y (hy.below B1 (Nat.le_refl _))).mono ?_
      rintro e w2 ⟨rfl, b2⟩
      rw [HB.out]
      have B2 := B1.after b2 B1.size
      have K2 := K1.keep b2
      clear G K1 B1 b2
      go_wp2_with fail
      refine (HLV.out w2 (hu.below B2 (Nat.le_refl _))).mono ?_
      rintro e w3 ⟨pt, it, qt, rfl, ot, b3⟩
      have hit : it = T.length := ot.ints.capLe.1
      subst hit
      have B3 := B2.after b3 B2.size
      have K3 := K2.keep b3
      obtain ⟨_, tb, toff, _, hve, _, htix, htc, htb⟩ := ot.ints.view Tryz.prog 22 3 Tryz.underlying22 intElem
      injection hve with x1 _ x3
      subst x1 x3
      have HTC := Lib.hid htc
      have HTIX := Lib.hid htix
      clear K2 B2 b3 htc htix ot
      go_wp2_with fail
      go_loopw [22] (fun iv wr => ∃ j : Nat, j ≤ T.length ∧ iv = .int .i64 j ∧ (T.take j).all (fun s => slackOf l y s == 0) = true ∧ Below w3.heap.size w3 wr) (fun iv _ => T.length - (intOf iv).toNat)
      case atStart => exact ⟨0, Nat.zero_le _, rfl, rfl, Below.refl _ _⟩
      case round =>
        obtain ⟨j, hj, rfl, hall, Bw⟩ := hrel
        have HALL := Lib.hid hall
        clear hall
        have B4 := B3.after Bw B3.size
        have K4 := K3.keep Bw
        by_cases hlt : j < T.length
        · have hlt2 : (j : Int) < (T.length : Int) := by omega
          have ck := cells_below HTC.out htb Bw (Nat.le_refl _) j hlt
          have ik := fun W => HTIX.out W j hlt
          have hss := HSL.out wr T[j] (hv.below B4 (Nat.le_refl _)) (hy.below B4 (Nat.le_refl _)) (List.getElem_mem hlt)
          have htk := all_take_succ (fun s => slackOf l y s == 0) T j hlt
          have hfa := all_false_k (fun s => slackOf l y s == 0) T j hlt
          obtain ⟨s, hs⟩ : ∃ s, s = T[j] := ⟨_, rfl⟩
          rw [← hs] at ck hss htk hfa
          obtain ⟨sl, hsl⟩ : ∃ z, z = slackOf l y s := ⟨_, rfl⟩
          rw [← hsl] at hss htk hfa
          have HSS := Lib.hid hss
          have HTK := Lib.hid htk
          have HFA := Lib.hid hfa
          clear hs hsl hss htk hfa
          have G := K4.cell
          cases hz : sl == 0 with
          | false =>
            have hne : (sl != 0) = true := by rw [bne, hz]; rfl
            have hx := HX.out.trans (HFA.out hz)
            have HX2 := Lib.hid hx
            clear hx hz
            go_wp2_with fail
            refine HSS.out.mono ?_
            rintro e w5 ⟨rfl, b5⟩
            go_wp2
            go_ret
            exact ⟨ret_bool HX2.out.symm, B4.after b5 B4.size⟩
          | true =>
            have hne : (sl != 0) = false := by rw [bne, hz]; rfl
            have ha2 : (T.take (j + 1)).all (fun s => slackOf l y s == 0) = true := by rw [HTK.out, HALL.out, hz]; rfl
            have HA2 := Lib.hid ha2
            clear ha2 hz
            go_wp2_with fail
            refine HSS.out.mono ?_
            rintro e w5 ⟨rfl, b5⟩
            go_wp2
            go_roundw
            case rel => exact ⟨j + 1, by omega, by go_num, HA2.out, Bw.after b5 Bw.size⟩
            case measure => simp [intOf]; omega
        · have hlt2 : ¬ (j : Int) < (T.length : Int) := by omega
          have hx : bestB n l x y = true := by rw [HX.out, ← all_of_take _ T j (by omega), HALL.out]
          have HX2 := Lib.hid hx
          clear hx
          go_wp2
          go_ret
          exact ⟨ret_bool HX2.out.symm, B4⟩

theorem sglL_succ (l : List Int) (k : Nat) : sglL ((k + 1 : Nat) : Int) l = sglL (k : Int) l ++ [l.getD (2 ^ k) 0] := by
  unfold sglL
  rw [Int.toNat_natCast, Int.toNat_natCast, List.range_succ, List.map_append]; rfl
theorem sglL_len (N : Nat) (l : List Int) : (sglL (N : Int) l).length = N := by unfold sglL; simp
set_option maxHeartbeats 1000000 in
set_option maxRecDepth 100000 in
theorem singleI_any (w : World) (N : Nat) (v : Value) (l : List Int) (hv : Ints w v l) (hf : isFunB (N : Int) l = true) :
    Calls Tryz.prog 67 #[.agg #[.int .i64 (N : Int), v]] w fun e w' => ∃ ad i cp, e = .returned (.slice ad i cp) ∧ OwnI 3 w.heap.size w' (.slice ad i cp) (sglL (N : Int) l) ∧ Below w.heap.size w w' := by
  obtain ⟨a, b, off, c, rfl, hlen, hix, hc, hb⟩ := hv.view Tryz.prog 22 3 Tryz.underlying22 intElem
  obtain ⟨N', hN', hN5, hl2, hl32, hlb⟩ := fun_nat hf
  have hN' : N' = N := by omega
  subst hN'
  have K0 := Blk.new w 31 #[.int .i64 (N' : Int), .slice a l.length c]
  have B0 := bl1 w (.cells #[.int .i64 (N' : Int), .slice a l.length c] 31)
  have HL := Lib.hid hl2
  have HC := Lib.hid hc
  have HIX := Lib.hid hix
  have HLB := Lib.hid hlb
  clear hl2 hc hix hf hlb
  go_enter Tryz.func67, Tryz.ntmps67
  go_wp2_with fail
  go_loopw [3, 7] (fun ov iv wr => ∃ (k : Nat) (p : Option Addr) (q m : Nat), k ≤ N' ∧ iv = .int .i64 k ∧ ov = .slice p q m ∧ OwnI 3 (w.heap.size + 1) wr (.slice p q m) (sglL (k : Int) l) ∧ Blk wr w.heap.size 31 #[.int .i64 (N' : Int), .slice a l.length c] ∧ Below w.heap.size w wr) (fun _ iv _ => N' - (intOf iv).toNat)
  case atStart => exact ⟨0, _, _, _, Nat.zero_le _, rfl, rfl, OwnI.nil _ _ _, K0, B0⟩
  case round =>
    obtain ⟨k, p, q, m, hk, rfl, rfl, own, K, B⟩ := hrel
    obtain ⟨wo, rfl⟩ : ∃ z : World, z = wr := ⟨_, rfl⟩
    have HOWN := Lib.hid own
    clear own K0 B0
    by_cases hlt : k < N'
    · have hlt2 : (k : Int) < (N' : Int) := by omega
      have hpl : 2 ^ k < l.length := by rw [HL.out]; exact Nat.pow_lt_pow_right (by decide) hlt
      have ck := cells_below HC.out hb B (Nat.le_refl _) (2 ^ k) hpl
      have ik : ∀ W, (Instr.indexAt 22 (.slice a l.length c) (.int .i64 ((2 : Int) ^ k))).run Tryz.prog W = .ok (.pointer (some ⟨b, off + 2 ^ k, none⟩)) W := fun W => by have := HIX.out W (2 ^ k) hpl; simpa using this
      have hbk := HLB.out (2 ^ k) hpl
      have hs := sglL_succ l k
      rw [getD_at l (2 ^ k) hpl] at hs
      have hsl := sglL_len k l
      obtain ⟨y, hy⟩ : ∃ y, y = l[2 ^ k] := ⟨_, rfl⟩
      rw [← hy] at ck hbk hs
      have hp := two_pow k 5 (by omega)
      have hp1 := hp.1
      have hp2 := hp.2
      simp at hp1
      have hwp : IntKind.i64.wrap ((2 : Int) ^ k) = 2 ^ k := by rw [IntKind.wrap_i64]; omega
      have HS := Lib.hid hs
      have hll : (sglL (k : Int) l).length < 100 := by omega
      have G := K.cell
      have zo := B.size
      have zk := K.lt
      clear hy hs hp hsl hpl
      go_wp2_with (at_builtin; refine wpList_appendI rfl _ _ _ rfl 3 Tryz.underlying22 intElem (w.heap.size + 1) _ (sglL (k : Int) l) y wo.heap.size rfl rfl (cell_new _ _ _ _ _ rfl) (HOWN.out.alloc _) ⟨by omega, by omega⟩ (by omega) (by simp; omega) ?_; intro v' w6 hown hgr; obtain ⟨av, nv, cv, rfl⟩ := hown.shape3)
      have hrow := HOWN.out.lt
      have B6 : Below w.heap.size w w6 := (B.alloc B.size (.cells #[.int .i64 y] 3)).grown hgr (by have := B.size; simp; omega) (fun q hq => by have := (hrow q hq).1; omega)
      have K6 : Blk w6 w.heap.size 31 #[.int .i64 (N' : Int), .slice a l.length c] := (K.alloc _).grow hgr (fun e => by have := (hrow _ e).1; omega)
      go_roundw
      case rel => exact ⟨k + 1, av, nv, cv, by omega, by go_num, rfl, by rw [HS.out]; exact hown, K6, B6⟩
      case measure => simp [intOf]; omega
    · have hlt2 : ¬ (k : Int) < (N' : Int) := by omega
      have hke : k = N' := by omega
      subst hke
      have G := K.cell
      go_wp2
      go_ret
      exact ⟨_, _, _, rfl, HOWN.out.mono (by omega), B⟩
end Go.Proofs.YtelmokapdkepbaaGreat
end
section
namespace Go.Proofs.YtelmokapdkepbaaGreat
open Go.RowKit Go.G5

theorem dual_bel {n : Int} {l x : List Int} (h : dualV n l x = true) : belB n l x = true := by
  unfold dualV at h
  rw [Bool.and_eq_true] at h
  exact h.1
theorem set_nat {N : Nat} {st : Int} (h : isSet N st = true) : ∃ s : Nat, st = (s : Int) ∧ s < 2 ^ N := by
  have h := isSet_true.1 h
  obtain ⟨s, rfl⟩ := Int.eq_ofNat_of_zero_le h.1
  have e : ((2 : Int) ^ N) = ((2 ^ N : Nat) : Int) := by simp
  exact ⟨s, rfl, by omega⟩
set_option maxHeartbeats 1000000 in
set_option maxRecDepth 100000 in
theorem chkMinI_any (w : World) (k n1 : Int) (v1 : Value) (l1 : List Int) (h1 : Ints w v1 l1) (n2 : Int) (v2 : Value) (l2 : List Int) (h2 : Ints w v2 l2) (n3 : Int) (v3 : Value) (l3 : List Int) (h3 : Ints w v3 l3) (q st : Int) (v4 : Value) (l4 : List Int) (h4 : Ints w v4 l4) :
    Calls Tryz.prog 35 #[clV k n1 v1 n2 v2 n3 v3 q st v4] w fun e w' => e = .returned (.bool (chkMin n1 l1 q st l4)) ∧ Below w.heap.size w w' := by
  obtain ⟨a1, c1, rfl⟩ := h1.shape
  obtain ⟨a2, c2, rfl⟩ := h2.shape
  obtain ⟨a3, c3, rfl⟩ := h3.shape
  obtain ⟨a4, c4, rfl⟩ := h4.shape
  have K0 := Blk.new w 34 (clC k n1 (.slice a1 l1.length c1) n2 (.slice a2 l2.length c2) n3 (.slice a3 l3.length c3) q st (.slice a4 l4.length c4))
  cases hd : dualV n1 l1 l4 with
  | false =>
    have hx : chkMin n1 l1 q st l4 = false := by unfold chkMin; rw [hd]; rfl
    have HX := Lib.hid hx
    have HD := Lib.hid hd
    clear hx hd
    go_enter Tryz.func35, Tryz.ntmps35
    go_wp2_with fail
    refine (dualVI_any _ n1 _ l1 (h1.alloc _) _ l4 (h4.alloc _)).mono ?_
    rintro e w1 ⟨rfl, b1⟩
    rw [HD.out]
    go_wp2
    go_ret
    exact ⟨ret_bool HX.out.symm, (bl1 _ _).after b1 (by simp)⟩
  | true =>
    obtain ⟨hf, hlg⟩ := bel_parts (dual_bel hd)
    obtain ⟨N, rfl, hN, hll, _, hbd⟩ := fun_nat hf
    obtain ⟨hxn, hxb⟩ := longOk hlg
    have hso := fun W => isSetOf_any N st W (by omega)
    cases hs : isSet N st with
    | false =>
      have hx : chkMin (N : Int) l1 q st l4 = false := by unfold chkMin; rw [hd, Int.toNat_natCast, hs]; rfl
      rw [hs] at hso
      have HX := Lib.hid hx
      have HD := Lib.hid hd
      have HSO := Lib.hid hso
      clear hx hd hs hso hll hxn hbd hxb hf hlg
      go_enter Tryz.func35, Tryz.ntmps35
      go_wp2_with fail
      refine (dualVI_any _ _ _ l1 (h1.alloc _) _ l4 (h4.alloc _)).mono ?_
      rintro e w1 ⟨rfl, b1⟩
      rw [HD.out]
      have B1 : Below w.heap.size w w1 := (bl1 _ _).after b1 (by simp)
      have G := (K0.keep b1).cell
      go_wp2_with (go_at_call 59; refine (HSO.out _).mono ?_; rintro e w' ⟨rfl, rfl⟩)
      go_ret
      exact ⟨ret_bool HX.out.symm, B1⟩
    | true =>
      obtain ⟨s, rfl, hs2⟩ := set_nat hs
      have hx : chkMin (N : Int) l1 q (s : Int) l4 = (l1.getD s 0 == q && wt l4 (2 ^ N - 1) == q) := by unfold chkMin; rw [hd, Int.toNat_natCast, Int.toNat_natCast, hs]; rfl
      rw [hs] at hso
      have hsl : s < l1.length := by omega
      rw [getD_at l1 s hsl] at hx
      obtain ⟨_, b, off, _, hve, _, hix, hc, hb⟩ := h1.view Tryz.prog 22 3 Tryz.underlying22 intElem
      injection hve with x1 _ x3
      subst x1 x3
      have hcs := hc s hsl
      have hixs := fun W => hix W s hsl
      have hp := two_pow N 5 hN
      have hp1 := hp.1
      have hp2 := hp.2
      have hal := fun (W : World) (h : Ints W (.slice a1 l1.length c1) l1) => allOf_any (N : Int) _ l1 W h (by omega) (by omega)
      simp only [Int.toNat_natCast] at hal
      have hwt := fun W (h : Ints W (.slice a4 l4.length c4) l4) => weightOf_any l4 _ (2 ^ N - 1) W h (by omega) (by simp at hp1; omega) (fun k hk => by have := hxb k hk; omega) (by omega)
      obtain ⟨Wt, hWt⟩ : ∃ P, P = wt l4 (2 ^ N - 1) := ⟨_, rfl⟩
      rw [← hWt] at hx
      simp only [← hWt] at hwt
      obtain ⟨y, hy⟩ : ∃ y, y = l1[s] := ⟨_, rfl⟩
      rw [← hy] at hcs hx
      have HX := Lib.hid hx
      have HD := Lib.hid hd
      have HSO := Lib.hid hso
      have HAL := Lib.hid hal
      have HWT := Lib.hid hwt
      clear hx hd hs hso hll hxn hbd hxb hf hlg hal hwt hWt hy hc hix hp hp1 hp2 hs2
      go_enter Tryz.func35, Tryz.ntmps35
      go_wp2_with fail
      refine (dualVI_any _ _ _ l1 (h1.alloc _) _ l4 (h4.alloc _)).mono ?_
      rintro e w1 ⟨rfl, b1⟩
      rw [HD.out]
      have B1 : Below w.heap.size w w1 := (bl1 _ _).after b1 (by simp)
      have G := (K0.keep b1).cell
      have z1 := (K0.keep b1).lt
      have h1w := h1.below B1 (Nat.le_refl _)
      have h4w := h4.below B1 (Nat.le_refl _)
      have hcw : w1.cell? ⟨b, off + s, none⟩ = some (.int .i64 y) := keep B1 hcs
      clear hcs hb
      go_wp2_with (go_at_call 59; refine (HSO.out _).mono ?_; rintro e w' ⟨rfl, rfl⟩)
      have e1 : ∀ z : Ext w1, z.w.cell? ⟨w.heap.size, 1, none⟩ = some (.int .i64 (N : Int)) := fun z => z.cell (G 1)
      have e2 : ∀ z : Ext w1, z.w.cell? ⟨w.heap.size, 2, none⟩ = some (.slice a1 l1.length c1) := fun z => z.cell (G 2)
      have e7 : ∀ z : Ext w1, z.w.cell? ⟨w.heap.size, 7, none⟩ = some (.int .i64 q) := fun z => z.cell (G 7)
      have e8 : ∀ z : Ext w1, z.w.cell? ⟨w.heap.size, 8, none⟩ = some (.int .i64 (s : Int)) := fun z => z.cell (G 8)
      have e9 : ∀ z : Ext w1, z.w.cell? ⟨w.heap.size, 9, none⟩ = some (.slice a4 l4.length c4) := fun z => z.cell (G 9)
      have ey : ∀ z : Ext w1, z.w.cell? ⟨b, off + s, none⟩ = some (.int .i64 y) := fun z => z.cell hcw
      have QA := Lib.hid (fun z : Ext w1 => HAL.out z.w (z.ints h1w))
      have QW := Lib.hid (fun z : Ext w1 => HWT.out z.w (z.ints h4w))
      clear G hcw
      cases hyq : y == q with
      | false =>
        rw [hyq] at HX
        refine wp_region_ext _ (by kernel_rfl) (by kernel_rfl) ?_
        repeat (first | go_big_quiet_skip | (go_big_quiet_want; go_big_quiet_op; first | go_big_quiet_on | (apply Exists.intro; refine ⟨fun _ => ?_, ?_⟩; (first | (go_at_call 61; exact ext_call (QA.out _)) | (go_at_call 60; exact ext_same (QW.out _))); go_big_quiet_on)))
        refine wpQuiet_nil ?_
        rintro w3 ⟨⟨w3, hb3⟩, rfl⟩
        try dsimp only
        go_wp2
        go_ret
        exact ⟨ret_bool HX.out.symm, B1.after hb3 B1.size⟩
      | true =>
        rw [hyq] at HX
        refine wp_region_ext _ (by kernel_rfl) (by kernel_rfl) ?_
        repeat (first | go_big_quiet_skip | (go_big_quiet_want; go_big_quiet_op; first | go_big_quiet_on | (apply Exists.intro; refine ⟨fun _ => ?_, ?_⟩; (first | (go_at_call 61; exact ext_call (QA.out _)) | (go_at_call 60; exact ext_same (QW.out _))); go_big_quiet_on)))
        refine wpQuiet_nil ?_
        rintro w3 ⟨⟨w3, hb3⟩, rfl⟩
        try dsimp only
        go_wp2
        go_ret
        exact ⟨ret_bool HX.out.symm, B1.after hb3 B1.size⟩
end Go.Proofs.YtelmokapdkepbaaGreat
end
