/- Families as texts: both programs. Families as texts: the second program. Lists of claims as texts: both programs. Claims: the laws' own copies, sizes and equalities. The parts of a claim's text: the first program. -/
import Derived.Test.YtipejodijbjpcaaGreatDoorQ11
import Derived.Lib.MinMax
section
namespace Go.Proofs.YtipejodijbjpcaaGreatDoor
open Go.RowKit Go.G5

def bar : ByteArray := ⟨#[124]⟩
def famTx (g : Int) (l : List Int) : ByteArray := if isFamB g l = true then (if l = [] then noneB else joinB bar (l.map (setTx g))) else ByteArray.empty
theorem asc_ge (l : List Int) (hp : l.Pairwise (· < ·)) (h0 : ∀ x ∈ l, 0 ≤ x) : ∀ k, (h : k < l.length) → (k : Int) ≤ l[k] := by
  intro k
  induction k with
  | zero => intro h; have := h0 _ (List.getElem_mem h); omega
  | succ k ih =>
    intro h
    have h1 := ih (by omega)
    have h2 := List.pairwise_iff_getElem.1 hp k (k + 1) (by omega) h (by omega)
    omega
theorem fam_len {g : Int} {l : List Int} (h : isFamB g l = true) : l.length ≤ 64 := by
  obtain ⟨h0, h6, hb, hp⟩ := famOk h
  have h64 := pow_le64 h0 h6
  by_cases hl : l.length = 0
  · omega
  · have h1 := asc_ge l hp (fun x hx => (hb x hx).1) (l.length - 1) (by omega)
    have h2 := (hb _ (List.getElem_mem (show l.length - 1 < l.length by omega))).2
    omega
theorem fam_ok {g : Int} {l : List Int} (h : isFamB g l = true) : ∀ s ∈ l, setOk g s = true := by
  obtain ⟨h0, h6, hb, hp⟩ := famOk h
  intro s hs
  unfold setOk
  rw [inB_true.2 ⟨h0, h6⟩, isSet_true.2 (hb s hs)]; rfl
theorem bars_size (g : Int) (l : List Int) : (joinB bar (l.map (setTx g))).size ≤ l.length * 133 := by
  have := joinB_size bar 132 (l.map (setTx g)) (fun x hx => by
    obtain ⟨y, hy, rfl⟩ := List.mem_map.1 hx
    exact setTx_size g y)
  rw [List.length_map] at this
  exact this
theorem bars_take (g : Int) (l : List Int) (k : Nat) (hl : l.length ≤ 64) (hk : k ≤ l.length) : (joinB bar ((l.take k).map (setTx g))).size ≤ 22000 := by
  have h1 := bars_size g (l.take k)
  rw [List.length_take] at h1
  have : min k l.length = k := by omega
  rw [this] at h1
  omega
theorem bars_next (g : Int) (l : List Int) (k : Nat) (hk : k < l.length) : joinB bar ((l.take (k + 1)).map (setTx g)) = if k = 0 then setTx g l[k] else joinB bar ((l.take k).map (setTx g)) ++ bar ++ setTx g l[k] := by
  have h := joinB_take bar (l.map (setTx g)) k (by rw [List.length_map]; exact hk)
  rw [List.getElem_map, ← List.map_take, ← List.map_take] at h
  exact h
theorem famTx_size (g : Int) (l : List Int) : (famTx g l).size ≤ 10000 := by
  unfold famTx
  split
  · rename_i h
    split
    · show 4 ≤ 10000; omega
    · have h1 := bars_size g l
      have h2 := fam_len h
      omega
  · simp
theorem bars_emp (g : Int) (l : List Int) (h : ∀ s ∈ l, setOk g s = true) : (joinB bar (l.map (setTx g)) = ByteArray.empty) = (l = []) := by
  refine propext ⟨fun h2 => ?_, fun h2 => by subst h2; rfl⟩
  cases l with
  | nil => rfl
  | cons x l => exact absurd h2 (joinB_ne bar (setTx g x) (l.map (setTx g)) (setTx_ne g x (h x (by simp))))
theorem famTx_ne (g : Int) (l : List Int) (h : isFamB g l = true) : famTx g l ≠ ByteArray.empty := by
  unfold famTx
  rw [if_pos h]
  split
  · intro e
    exact absurd (congrArg ByteArray.size e) (by decide)
  · rename_i h0
    rw [Ne, bars_emp g l (fam_ok h)]
    exact h0
set_option maxHeartbeats 1000000 in
set_option maxRecDepth 100000 in
theorem fmtFamI_any (g : Int) (l : List Int) (v : Value) (w : World) (hv : Ints w v l) (hp : Pow w) :
    Calls Tryz.prog 31 #[.agg #[.int .i64 g, v]] w fun e w' => e = .returned (.string (famTx g l)) ∧ Below w.heap.size w w' := by
  have hv0 := hv
  obtain ⟨a, b, off, c, rfl, hlen, hix, hc, hb⟩ := hv.view Tryz.prog 22 3 Tryz.underlying22 intElem
  have K0 := Blk.new w 27 #[.int .i64 g, .slice a l.length c]
  have HC := Lib.hid hc
  have HIX := Lib.hid hix
  clear hc hix hlen
  go_enter Tryz.func31, Tryz.ntmps31
  go_wp2_with fail
  refine (isFamI_any g l _ _ (hv0.alloc _)).mono ?_
  rintro e w1 ⟨rfl, hb1⟩
  have K1 := K0.keep hb1
  have B1 : Below w.heap.size w w1 := (bl1 _ _).after hb1 (by simp)
  have G1 := K1.cell
  clear K0 hb1
  cases hf : isFamB g l with
  | false =>
    have hx : famTx g l = ByteArray.empty := by unfold famTx; rw [hf]; rfl
    have HX := Lib.hid hx
    clear hx hf
    go_wp2
    go_ret
    exact ⟨ret_str HX.out.symm, B1⟩
  | true =>
    have h64 := fam_len hf
    by_cases hl0 : l.length = 0
    · have hx : famTx g l = noneB := by unfold famTx; rw [if_pos hf, if_pos (List.eq_nil_of_length_eq_zero hl0)]
      have HX := Lib.hid hx
      have hz : ((l.length : Int) == 0) = true := by simp [hl0]
      have hz2 : (l.length == 0) = true := by simp [hl0]
      clear hx hf hl0 hz
      go_wp2
      go_ret
      exact ⟨ret_str HX.out.symm, B1⟩
    · have hx : famTx g l = joinB bar (l.map (setTx g)) := by unfold famTx; rw [if_pos hf, if_neg (fun h => hl0 (by rw [h]; rfl))]
      have HX := Lib.hid hx
      have hz : (l.length == 0) = false := by simpa using hl0
      have hzz : ((l.length : Int) == 0) = false := by simp; intro h; exact hl0 (by rw [h]; rfl)
      clear hx hf hl0
      go_wp2_with fail
      go_loopw [3, 16] (fun ov iv wr => ∃ (k : Nat) (p : Option Addr) (n cp : Nat), k ≤ l.length ∧ iv = .int .i64 k ∧ ov = .slice p n cp ∧ OwnS 9 w1.heap.size wr (.slice p n cp) ((l.take k).map (setTx g)) ∧ Below w1.heap.size w1 wr) (fun _ iv _ => l.length - (intOf iv).toNat)
      case atStart => exact ⟨0, _, _, _, Nat.zero_le _, rfl, rfl, OwnS.nil _ _ _, Below.refl _ _⟩
      case round =>
        obtain ⟨k, p, n, cp, hk, rfl, rfl, ho, B⟩ := hrel
        obtain ⟨wz, rfl⟩ : ∃ q : World, q = wr := ⟨_, rfl⟩
        have hpz := hp.keep (B1.after B B1.size)
        have Kz := K1.keep B
        have Gz := Kz.cell
        clear G1 hz hzz
        by_cases hlt : k < l.length
        · have hlt2 : (k : Int) < (l.length : Int) := by omega
          have hck := cells_below HC.out hb (B1.after B B1.size) (Nat.le_refl _) k hlt
          have hik := fun W => HIX.out W k hlt
          have hst : (l.take (k + 1)).map (setTx g) = (l.take k).map (setTx g) ++ [setTx g l[k]] := by
            rw [List.take_succ_eq_append_getElem hlt, List.map_append]; rfl
          have hkl : ((l.take k).map (setTx g)).length = k := by simp; omega
          obtain ⟨x, hx⟩ : ∃ x, x = l[k] := ⟨_, rfl⟩
          rw [← hx] at hck hst
          have HST := Lib.hid hst
          have HKL := Lib.hid hkl
          clear hx hst hkl
          have hF := Lib.hid (fmtSetI_any g x wz hpz)
          go_wp2_with fail
          refine hF.out.mono ?_
          rintro e w3 ⟨rfl, b3⟩
          have ho := ho.keep b3
          have B := B.after b3 B.size
          have zB := B.size
          clear b3 hF Gz
          go_wp2_with (at_builtin; refine wpList_appendT rfl _ _ _ rfl 9 Tryz.underlying94 strElem w1.heap.size (.slice p n cp) ((l.take k).map (setTx g)) [setTx g x] w3.heap.size 1 1 rfl rfl rfl (fun j y hy => by match j, hy with | 0, hy => (cases hy; exact cell_new _ _ _ _ _ rfl)) (ho.alloc _) (by rw [HKL.out]; simp; omega) (by simp; omega) ?_; intro v7 w7 o7 g7; obtain ⟨p7, i7, q7, rfl⟩ := o7.shape3)
          have rr := ho.lt
          have B7 := (B.alloc zB (.cells #[.string (setTx g x)] 9)).grown g7 (by simp; omega) (fun q hq => (rr _ hq).1)
          go_roundw
          case rel => exact ⟨k + 1, p7, i7, q7, by omega, by go_num, rfl, by rw [HST.out]; exact o7, B7⟩
          case measure => simp [intOf]; omega
        · have hkl : k = l.length := by omega
          have ho2 : OwnS 9 w1.heap.size wz (.slice p n cp) (l.map (setTx g)) := by
            rw [hkl, List.take_length] at ho; exact ho
          have hlt2 : ¬ (k : Int) < (l.length : Int) := by omega
          have hbs := bars_size g l
          have HJ := Lib.hid (join_own w1.heap.size wz _ (l.map (setTx g)) bar ho2 (by omega) (by rw [List.length_map]; omega))
          have BB := B1.after B B1.size
          clear hkl ho ho2 hpz hbs
          go_wp2_with fail
          refine HJ.out.mono ?_
          rintro e w3 ⟨rfl, b3⟩
          go_wp2
          go_ret
          exact ⟨ret_str HX.out.symm, BB.after b3 BB.size⟩
end Go.Proofs.YtipejodijbjpcaaGreatDoor
end
section
namespace Go.Proofs.YtipejodijbjpcaaGreatDoor
open Go.RowKit Go.G5

set_option maxHeartbeats 2000000 in
set_option maxRecDepth 100000 in
theorem fmtFamS_any (g : Int) (l : List Int) (v : Value) (w : World) (hv : Ints w v l) :
    Calls Tryz.prog 74 #[.agg #[.int .i64 g, v]] w fun e w' => e = .returned (.string (famTx g l)) ∧ Below w.heap.size w w' := by
  have hv0 := hv
  obtain ⟨a, b, off, c, rfl, hlen, hix, hc, hb⟩ := hv.view Tryz.prog 22 3 Tryz.underlying22 intElem
  have K0 := Blk.new w 27 #[.int .i64 g, .slice a l.length c]
  have HC := Lib.hid hc
  have HIX := Lib.hid hix
  clear hc hix hlen
  cases hf : isFamB g l with
  | false =>
    have hx : famTx g l = ByteArray.empty := by unfold famTx; rw [hf]; rfl
    have HX := Lib.hid hx
    have HF := Lib.hid hf
    clear hx hf
    go_enter Tryz.func74, Tryz.ntmps74
    go_wp2_with fail
    go_loopw [3, 4] (fun sv iv wr => iv = .int .i64 0 ∧ sv = .string ⟨#[]⟩ ∧ Below w.heap.size w wr ∧ Blk wr w.heap.size 27 #[.int .i64 g, .slice a l.length c]) (fun _ _ _ => 0)
    case atStart => exact ⟨rfl, rfl, bl1 _ _, K0⟩
    case round =>
      obtain ⟨rfl, rfl, B, K⟩ := hrel
      have G1 := K.cell
      by_cases hl0 : 0 < l.length
      · have hl1 : (0 : Int) < (l.length : Int) := by omega
        go_wp2_with fail
        refine (isFamS_any g l _ _ (hv0.below B (Nat.le_refl _))).mono ?_
        rintro e w1 ⟨rfl, hb1⟩
        rw [HF.out]
        have K := K.keep hb1
        have B := B.after hb1 B.size
        clear G1
        have G1 := K.cell
        go_wp2_with fail
        refine (isFamS_any g l _ _ (hv0.below B (Nat.le_refl _))).mono ?_
        rintro e w2 ⟨rfl, hb2⟩
        rw [HF.out]
        go_wp2
        go_ret
        exact ⟨ret_str HX.out.symm, B.after hb2 B.size⟩
      · have hl1 : ¬ (0 : Int) < (l.length : Int) := by omega
        go_wp2_with fail
        refine (isFamS_any g l _ _ (hv0.below B (Nat.le_refl _))).mono ?_
        rintro e w2 ⟨rfl, hb2⟩
        rw [HF.out]
        go_wp2
        go_ret
        exact ⟨ret_str HX.out.symm, B.after hb2 B.size⟩
  | true =>
    have h64 := fam_len hf
    have hlx : famTx g l = if l = [] then noneB else joinB bar (l.map (setTx g)) := by unfold famTx; rw [if_pos hf]
    have hem0 : (joinB bar (l.map (setTx g)) = ByteArray.empty) = (l = []) := bars_emp g l (fam_ok hf)
    have HEM := Lib.hid hem0
    have HLX := Lib.hid hlx
    have HF := Lib.hid hf
    clear hlx hf hem0
    go_enter Tryz.func74, Tryz.ntmps74
    go_wp2_with fail
    go_loopw [3, 4] (fun sv iv wr => ∃ (k : Nat) (S : ByteArray), k ≤ l.length ∧ iv = .int .i64 k ∧ sv = .string S ∧ S = joinB bar ((l.take k).map (setTx g)) ∧ Below w.heap.size w wr ∧ Blk wr w.heap.size 27 #[.int .i64 g, .slice a l.length c]) (fun _ iv _ => l.length - (intOf iv).toNat)
    case atStart => exact ⟨0, _, Nat.zero_le _, rfl, rfl, rfl, bl1 _ _, K0⟩
    case round =>
      obtain ⟨k, S, hk, rfl, rfl, hS, B, K⟩ := hrel
      obtain ⟨wz, rfl⟩ : ∃ q : World, q = wr := ⟨_, rfl⟩
      have hSs : S.size ≤ 22000 := by rw [hS]; exact bars_take g l k h64 hk
      have HS := Lib.hid hS
      clear hS K0
      have G1 := K.cell
      by_cases hlt : k < l.length
      · have hlt2 : (k : Int) < (l.length : Int) := by omega
        go_wp2_with fail
        refine (isFamS_any g l _ _ (hv0.below B (Nat.le_refl _))).mono ?_
        rintro e w1 ⟨rfl, hb1⟩
        rw [HF.out]
        have K := K.keep hb1
        have B := B.after hb1 B.size
        clear G1 hb1
        have hS := HS.out
        have hck := cells_below HC.out hb B (Nat.le_refl _) k hlt
        have hik := fun W => HIX.out W k hlt
        have hnx := bars_next g l k hlt
        rw [← hS] at hnx
        have hS0 : k = 0 → S = ByteArray.empty := fun h => by rw [hS, h]; rfl
        obtain ⟨x, hx⟩ : ∃ x, x = l[k] := ⟨_, rfl⟩
        rw [← hx] at hck hnx
        have hT := setTx_size g x
        have hF := fun y : Ext w1 => fmtSetS_any g x y.w
        obtain ⟨T, hTe⟩ : ∃ T, T = setTx g x := ⟨_, rfl⟩
        rw [← hTe] at hnx hT hF
        have HFF := Lib.hid hF
        have HNX := Lib.hid hnx
        have f0 := K.cell 0
        have f1 := K.cell 1
        simp only [List.getElem?_toArray, List.getElem?_cons_zero, List.getElem?_cons_succ] at f0 f1
        have q0 : ∀ y : Ext w1, y.w.cell? ⟨w.heap.size, 0, none⟩ = some (.int .i64 g) := fun y => y.cell f0
        have q1 : ∀ y : Ext w1, y.w.cell? ⟨w.heap.size, 1, none⟩ = some (.slice a l.length c) := fun y => y.cell f1
        have qk : ∀ y : Ext w1, y.w.cell? ⟨b, off + k, none⟩ = some (.int .i64 x) := fun y => y.cell hck
        clear hF hnx hx hTe hS HS f0 f1 hck
        by_cases hk0 : k = 0
        · have hSe := hS0 hk0
          subst hSe
          have HK0 := Lib.hid hk0
          have hgt : ¬ 0 < (k : Int) := by omega
          have hgt2 : ¬ 0 < k := by omega
          clear hS0 hk0
          go_wp2_with fail
          refine wp_region_ext _ (by kernel_rfl) (by kernel_rfl) ?_
          repeat (first | go_big_quiet_skip | (go_big_quiet_want; go_big_quiet_op; first | go_big_quiet_on | (apply Exists.intro; refine ⟨fun _ => ?_, ?_⟩; (go_at_call 81; with_reducible exact ext_call (HFF.out _)); go_big_quiet_on)))
          refine wpQuiet_nil ?_
          rintro w3 ⟨⟨w3, b3⟩, rfl⟩
          try dsimp only
          have B := B.after b3 B.size
          have K := K.keep b3
          go_wp2
          go_roundw
          case rel => exact ⟨k + 1, _, by omega, by go_num, rfl, by rw [HNX.out, if_pos HK0.out], B, K⟩
          case measure => simp [intOf]; omega
        · have hgt : 0 < (k : Int) := by omega
          have hgt2 : 0 < k := by omega
          have hS2 : (S ++ bar).size ≤ 22001 := by rw [ByteArray.size_append]; show S.size + 1 ≤ 22001; omega
          clear hS0
          go_wp2_with fail
          refine wp_region_ext _ (by kernel_rfl) (by kernel_rfl) ?_
          repeat (first | go_big_quiet_skip | (go_big_quiet_want; go_big_quiet_op; first | go_big_quiet_on | (apply Exists.intro; refine ⟨fun _ => ?_, ?_⟩; (go_at_call 81; with_reducible exact ext_call (HFF.out _)); go_big_quiet_on)))
          refine wpQuiet_nil ?_
          rintro w3 ⟨⟨w3, b3⟩, rfl⟩
          try dsimp only
          have B := B.after b3 B.size
          have K := K.keep b3
          go_wp2
          go_roundw
          case rel => exact ⟨k + 1, _, by omega, by go_num, rfl, by rw [HNX.out, if_neg hk0]; rfl, B, K⟩
          case measure => simp [intOf]; omega
      · have hlt2 : ¬ (k : Int) < (l.length : Int) := by omega
        have hSl : S = joinB bar (l.map (setTx g)) := by rw [HS.out, show k = l.length by omega, List.take_length]
        have hem := str_emp S
        have he2 : decide (S = ByteArray.empty) = decide (l = []) := by rw [hSl]; simp only [HEM.out]
        rw [he2] at hem
        cases h0 : decide (l = []) with
        | true =>
          have hl0 : famTx g l = noneB := by rw [HLX.out, if_pos (of_decide_eq_true h0)]
          rw [h0] at hem
          have HL0 := Lib.hid hl0
          clear h0 he2 hSl hl0 HS
          go_wp2_with fail
          refine (isFamS_any g l _ _ (hv0.below B (Nat.le_refl _))).mono ?_
          rintro e w2 ⟨rfl, hb2⟩
          rw [HF.out]
          go_wp2
          go_ret
          exact ⟨ret_str HL0.out.symm, B.after hb2 B.size⟩
        | false =>
          have hl0 : famTx g l = S := by rw [HLX.out, if_neg (of_decide_eq_false h0)]; exact hSl.symm
          rw [h0] at hem
          have HL0 := Lib.hid hl0
          clear h0 he2 hSl hl0 HS
          go_wp2
          go_ret
          exact ⟨ret_str HL0.out.symm, B⟩
end Go.Proofs.YtipejodijbjpcaaGreatDoor
end
section
namespace Go.Proofs.YtipejodijbjpcaaGreatDoor
open Go.RowKit Go.G5

def clip (x : Int) : Int := max (-9999) (min 9999 x)
theorem clip_bd (x : Int) : -9999 ≤ clip x ∧ clip x ≤ 9999 := by unfold clip; omega
theorem clip_inR (x : Int) : InR (clip x) := by have := clip_bd x; exact ⟨by omega, by omega⟩
def listTx (l : List Int) : ByteArray := if (l.length = 0 ∨ 40 < l.length) then noneB else joinB comma ((l.map clip).map itoaB)
theorem listTx_size (l : List Int) : (listTx l).size ≤ 880 := by
  unfold listTx
  split
  · show 4 ≤ 880; omega
  · rename_i h
    have h1 := commas_size (l.map clip) (fun x hx => by
      obtain ⟨y, _, rfl⟩ := List.mem_map.1 hx
      exact clip_inR y)
    rw [List.length_map] at h1
    omega
theorem listTx_ne (l : List Int) : listTx l ≠ ByteArray.empty := by
  unfold listTx
  split
  · intro e
    exact absurd (congrArg ByteArray.size e) (by decide)
  · rename_i h
    rw [Ne, commas_emp, List.map_eq_nil_iff]
    intro e
    subst e
    exact h (.inl rfl)
set_option maxHeartbeats 1000000 in
set_option maxRecDepth 100000 in
theorem listTextI_any (l : List Int) (v : Value) (w : World) (hv : Ints w v l) (hp : Pow w) :
    Calls Tryz.prog 207 #[v] w fun e w' => e = .returned (.string (listTx l)) ∧ Below w.heap.size w w' := by
  obtain ⟨a, b, off, c, rfl, hlen, hix, hc, hb⟩ := hv.view Tryz.prog 22 3 Tryz.underlying22 intElem
  have HC := Lib.hid hc
  have HIX := Lib.hid hix
  clear hc hix hlen
  by_cases h0 : l.length = 0
  · have hx : listTx l = noneB := by unfold listTx; rw [if_pos (.inl h0)]
    have HX := Lib.hid hx
    have hz : ((l.length : Int) == 0) = true := by simp [h0]
    clear hx h0
    go_enter Tryz.func207, Tryz.ntmps207
    go_wp2
    go_ret
    exact ⟨ret_str HX.out.symm, Below.refl _ _⟩
  · have hz : ((l.length : Int) == 0) = false := by
      rw [beq_eq_false_iff_ne]; omega
    by_cases h4 : 40 < l.length
    · have hx : listTx l = noneB := by unfold listTx; rw [if_pos (.inr h4)]
      have HX := Lib.hid hx
      have h4i : (40 : Int) < (l.length : Int) := by omega
      clear hx h0
      go_enter Tryz.func207, Tryz.ntmps207
      go_wp2
      go_ret
      exact ⟨ret_str HX.out.symm, Below.refl _ _⟩
    · have hx : listTx l = joinB comma ((l.map clip).map itoaB) := by unfold listTx; rw [if_neg (by omega)]
      have HX := Lib.hid hx
      have h4i : ¬ (40 : Int) < (l.length : Int) := by omega
      clear hx h0
      go_enter Tryz.func207, Tryz.ntmps207
      go_wp2_with fail
      go_loopw [3, 16] (fun ov iv wr => ∃ (k : Nat) (p : Option Addr) (n cp : Nat), k ≤ l.length ∧ iv = .int .i64 k ∧ ov = .slice p n cp ∧ OwnI 3 w.heap.size wr (.slice p n cp) ((l.take k).map clip) ∧ Below w.heap.size w wr) (fun _ iv _ => l.length - (intOf iv).toNat)
      case atStart => exact ⟨0, _, _, _, Nat.zero_le _, rfl, rfl, OwnI.nil _ _ _, Below.refl _ _⟩
      case round =>
        obtain ⟨k, p, n, cp, hk, rfl, rfl, ho, B⟩ := hrel
        obtain ⟨wz, rfl⟩ : ∃ q : World, q = wr := ⟨_, rfl⟩
        by_cases hlt : k < l.length
        · have hlt2 : (k : Int) < (l.length : Int) := by omega
          have hck := cells_below HC.out hb B (Nat.le_refl _) k hlt
          have hik := fun W => HIX.out W k hlt
          have hst : (l.take (k + 1)).map clip = (l.take k).map clip ++ [clip l[k]] := by
            rw [List.take_succ_eq_append_getElem hlt, List.map_append]; rfl
          have hkl : ((l.take k).map clip).length = k := by simp; omega
          obtain ⟨x, hx⟩ : ∃ x, x = l[k] := ⟨_, rfl⟩
          rw [← hx] at hck hst
          have hcr := clip_inR x
          have hce : max (-9999) (min 9999 x) = clip x := rfl
          have HST := Lib.hid hst
          have HKL := Lib.hid hkl
          have zB := B.size
          clear hx hst hkl
          go_wp2_with (at_builtin; refine wpList_appendI rfl _ _ _ rfl 3 Tryz.underlying22 intElem w.heap.size (.slice p n cp) ((l.take k).map clip) (clip x) _ rfl rfl (cell_new _ _ _ _ _ rfl) (ho.alloc _) hcr (by rw [HKL.out]; omega) (by simp; omega) ?_; intro v7 w7 o7 g7; obtain ⟨p7, i7, q7, rfl⟩ := o7.shape3)
          have rr := ho.lt
          have B7 := (B.alloc zB (.cells #[.int .i64 (clip x)] 3)).grown g7 (by simp; omega) (fun q hq => (rr _ hq).1)
          go_roundw
          case rel => exact ⟨k + 1, p7, i7, q7, by omega, by go_num, rfl, by rw [HST.out]; exact o7, B7⟩
          case measure => simp [intOf]; omega
        · have hkl : k = l.length := by omega
          have ho2 : OwnI 3 w.heap.size wz (.slice p n cp) (l.map clip) := by
            rw [hkl, List.take_length] at ho; exact ho
          have hlt2 : ¬ (k : Int) < (l.length : Int) := by omega
          have hj := joinIntsI_any (l.map clip) _ wz ho2.ints (by rw [List.length_map]; omega) (hp.keep B)
          obtain ⟨J, hJ⟩ : ∃ J, J = joinB comma ((l.map clip).map itoaB) := ⟨_, rfl⟩
          rw [← hJ] at hj
          have HXJ := Lib.hid (HX.out.trans hJ.symm)
          have HJ := Lib.hid hj
          clear hkl ho ho2 hj hJ
          go_wp2_with fail
          refine HJ.out.mono ?_
          rintro e w3 ⟨rfl, b3⟩
          go_wp2
          go_ret
          exact ⟨ret_str HXJ.out.symm, B.after b3 B.size⟩
set_option maxHeartbeats 1000000 in
set_option maxRecDepth 100000 in
theorem l33_any (l : List Int) (v : Value) (w : World) (hv : Ints w v l) :
    Calls Tryz.prog 210 #[v] w fun e w' => e = .returned (.string (listTx l)) ∧ Below w.heap.size w w' := by
  obtain ⟨a, b, off, c, rfl, hlen, hix, hc, hb⟩ := hv.view Tryz.prog 22 3 Tryz.underlying22 intElem
  have HC := Lib.hid hc
  have HIX := Lib.hid hix
  clear hc hix hlen
  by_cases h4 : 40 < l.length
  · have hx : listTx l = noneB := by unfold listTx; rw [if_pos (.inr h4)]
    have HX := Lib.hid hx
    have h4i : ¬ (l.length : Int) ≤ 40 := by omega
    have h4p : (0 : Int) < (l.length : Int) := by omega
    clear hx
    go_enter Tryz.func210, Tryz.ntmps210
    go_wp2_with fail
    go_loopw [3, 4] (fun sv iv wr => iv = .int .i64 0 ∧ sv = .string ⟨#[]⟩ ∧ Below w.heap.size w wr) (fun _ _ _ => 0)
    case atStart => exact ⟨rfl, rfl, Below.refl _ _⟩
    case round =>
      obtain ⟨rfl, rfl, B⟩ := hrel
      go_wp2
      go_ret
      exact ⟨ret_str HX.out.symm, B⟩
  · have hlx : listTx l = if l = [] then noneB else joinB comma ((l.map clip).map itoaB) := by
      unfold listTx
      by_cases h0 : l = []
      · rw [if_pos h0, if_pos (.inl (by rw [h0]; rfl))]
      · rw [if_neg h0, if_neg (fun h => h.elim (fun h => h0 (List.eq_nil_of_length_eq_zero h)) h4)]
    have HLX := Lib.hid hlx
    have h4i : (l.length : Int) ≤ 40 := by omega
    clear hlx
    have hin : ∀ x ∈ l.map clip, InR x := fun x hx => by
      obtain ⟨y, _, rfl⟩ := List.mem_map.1 hx
      exact clip_inR y
    have hml : (l.map clip).length = l.length := List.length_map ..
    have HML := Lib.hid hml
    have HIN := Lib.hid hin
    clear hml hin
    go_enter Tryz.func210, Tryz.ntmps210
    go_wp2_with fail
    go_loopw [3, 4] (fun sv iv wr => ∃ (k : Nat) (S : ByteArray), k ≤ l.length ∧ iv = .int .i64 k ∧ sv = .string S ∧ S = joinB comma (((l.map clip).take k).map itoaB) ∧ Below w.heap.size w wr) (fun _ iv _ => l.length - (intOf iv).toNat)
    case atStart => exact ⟨0, _, Nat.zero_le _, rfl, rfl, rfl, Below.refl _ _⟩
    case round =>
      obtain ⟨k, S, hk, rfl, rfl, hS, B⟩ := hrel
      obtain ⟨wz, rfl⟩ : ∃ q : World, q = wr := ⟨_, rfl⟩
      have hSs : S.size ≤ 22000 := by rw [hS]; exact commas_take (l.map clip) k HIN.out (by rw [HML.out]; omega) (by rw [HML.out]; exact hk)
      by_cases hlt : k < l.length
      · have hlt2 : (k : Int) < (l.length : Int) := by omega
        have hck := cells_below HC.out hb B (Nat.le_refl _) k hlt
        have hik := fun W => HIX.out W k hlt
        have hnx := commas_next (l.map clip) k (by rw [HML.out]; exact hlt)
        rw [List.getElem_map] at hnx
        rw [← hS] at hnx
        have hS0 : k = 0 → S = ByteArray.empty := fun h => by rw [hS, h]; rfl
        obtain ⟨x, hx⟩ : ∃ x, x = l[k] := ⟨_, rfl⟩
        rw [← hx] at hck hnx
        have hce : max (-9999) (min 9999 x) = clip x := rfl
        have hT := itoaB_size (clip x) (clip_inR x)
        have hF := fmtS_any (clip x) (clip_inR x) wz
        obtain ⟨T, hTe⟩ : ∃ T, T = itoaB (clip x) := ⟨_, rfl⟩
        rw [← hTe] at hnx hT hF
        have HF := Lib.hid hF
        have HNX := Lib.hid hnx
        clear hF hnx hx hTe hS
        by_cases hk0 : k = 0
        · have hSe := hS0 hk0
          subst hSe
          have HK0 := Lib.hid hk0
          have hgt : ¬ 0 < (k : Int) := by omega
          have hgt2 : ¬ 0 < k := by omega
          clear hS0 hk0
          go_wp2_with fail
          refine HF.out.mono ?_
          rintro e w3 ⟨rfl, b3⟩
          have B := B.after b3 B.size
          go_wp2
          go_roundw
          case rel => exact ⟨k + 1, _, by omega, by go_num, rfl, by rw [HNX.out, if_pos HK0.out], B⟩
          case measure => simp [intOf]; omega
        · have hgt : 0 < (k : Int) := by omega
          have hgt2 : 0 < k := by omega
          have hS2 : (S ++ comma).size ≤ 22001 := by rw [ByteArray.size_append]; show S.size + 1 ≤ 22001; omega
          clear hS0
          go_wp2_with fail
          refine HF.out.mono ?_
          rintro e w3 ⟨rfl, b3⟩
          have B := B.after b3 B.size
          go_wp2
          go_roundw
          case rel => exact ⟨k + 1, _, by omega, by go_num, rfl, by rw [HNX.out, if_neg hk0]; rfl, B⟩
          case measure => simp [intOf]; omega
      · have hlt2 : ¬ (k : Int) < (l.length : Int) := by omega
        have hSl : S = joinB comma ((l.map clip).map itoaB) := by rw [hS, show k = (l.map clip).length by rw [HML.out]; omega, List.take_length]
        have hem := str_emp S
        have he2 : decide (S = ByteArray.empty) = decide (l = []) := by rw [hSl]; simp only [commas_emp, List.map_eq_nil_iff]
        rw [he2] at hem
        cases h0 : decide (l = []) with
        | true =>
          have hl0 : listTx l = noneB := by rw [HLX.out, if_pos (of_decide_eq_true h0)]
          rw [h0] at hem
          have HL0 := Lib.hid hl0
          clear h0 he2 hSl hl0 hS
          go_wp2
          go_ret
          exact ⟨ret_str HL0.out.symm, B⟩
        | false =>
          have hl0 : listTx l = S := by rw [HLX.out, if_neg (of_decide_eq_false h0)]; exact hSl.symm
          rw [h0] at hem
          have HL0 := Lib.hid hl0
          clear h0 he2 hSl hl0 hS
          go_wp2
          go_ret
          exact ⟨ret_str HL0.out.symm, B⟩
end Go.Proofs.YtipejodijbjpcaaGreatDoor
end
section
namespace Go.Proofs.YtipejodijbjpcaaGreatDoor
open Go.RowKit Go.G5

/-- a claim's value -/
@[reducible] def clV (k n1 : Int) (v1 : Value) (n2 : Int) (v2 : Value) (n3 : Int) (v3 : Value) (q st : Int) (v4 : Value) : Value :=
  .agg #[.int .i64 k, .int .i64 n1, v1, .int .i64 n2, v2, .int .i64 n3, v3, .int .i64 q, .int .i64 st, v4]
@[reducible] def clC (k n1 : Int) (v1 : Value) (n2 : Int) (v2 : Value) (n3 : Int) (v3 : Value) (q st : Int) (v4 : Value) : Array Value :=
  #[.int .i64 k, .int .i64 n1, v1, .int .i64 n2, v2, .int .i64 n3, v3, .int .i64 q, .int .i64 st, v4]

end Go.Proofs.YtipejodijbjpcaaGreatDoor
end
section
namespace Go.Proofs.YtipejodijbjpcaaGreatDoor
open Go.RowKit Go.G5

def setW : ByteArray := ⟨#[115, 101, 116]⟩
def ofW : ByteArray := ⟨#[111, 102]⟩
def forW : ByteArray := ⟨#[102, 111, 114]⟩
def andW : ByteArray := ⟨#[97, 110, 100]⟩
def partsL (k : Int) (S F G A : ByteArray) : List ByteArray :=
  if k = 1 ∨ k = 5 then [setW, S, ofW, F] else if k = 2 then [ofW, F] else if k = 3 then [ofW, F, forW, G] else if k = 4 then [setW, S, ofW, F, andW, G] else [ofW, A]

set_option maxHeartbeats 2000000 in
set_option maxRecDepth 100000 in
theorem claimParts_any (k n1 : Int) (v1 : Value) (l1 : List Int) (n2 : Int) (v2 : Value) (l2 : List Int) (n3 : Int) (v3 : Value) (l3 : List Int) (q st : Int) (v4 : Value) (w : World)
    (h1 : Ints w v1 l1) (h2 : Ints w v2 l2) (h3 : Ints w v3 l3) (hp : Pow w) :
    Calls Tryz.prog 208 #[clV k n1 v1 n2 v2 n3 v3 q st v4] w fun e w' => ∃ ad i cp, e = .returned (.slice ad i cp) ∧ OwnS 9 w.heap.size w' (.slice ad i cp) (partsL k (setTx n1 st) (funTx n1 l1) (funTx n2 l2) (famTx n3 l3)) ∧ Below w.heap.size w w' := by
  have K0 := Blk.new w 49 (clC k n1 v1 n2 v2 n3 v3 q st v4)
  have hp0 := hp.keep (bl1 w (.cells (clC k n1 v1 n2 v2 n3 v3 q st v4) 49))
  have hs := fmtSetI_any n1 st _ hp0
  obtain ⟨S, hS⟩ : ∃ S, S = setTx n1 st := ⟨_, rfl⟩
  obtain ⟨F, hF⟩ : ∃ F, F = funTx n1 l1 := ⟨_, rfl⟩
  obtain ⟨G, hG⟩ : ∃ G, G = funTx n2 l2 := ⟨_, rfl⟩
  obtain ⟨A, hA⟩ : ∃ A, A = famTx n3 l3 := ⟨_, rfl⟩
  rw [← hS] at hs
  rw [← hS, ← hF, ← hG, ← hA]
  have HS := Lib.hid hs
  have HF := Lib.hid hF
  have HG := Lib.hid hG
  have HA := Lib.hid hA
  clear hs hS hF hG hA
  go_enter Tryz.func208, Tryz.ntmps208
  go_wp2_with fail
  refine HS.out.mono ?_
  rintro e w1 ⟨rfl, b1⟩
  have B1 : Below w.heap.size w w1 := (bl1 _ _).after b1 (by simp)
  have K1 := K0.keep b1
  clear K0 b1 HS
  have G1 := K1.cell
  have c0 := G1 0
  have c1 := G1 1
  have c2 := G1 2
  have c3 := G1 3
  have c4 := G1 4
  simp only [clC, List.getElem?_toArray, List.getElem?_cons_zero, List.getElem?_cons_succ] at c0 c1 c2 c3 c4
  have q1 : ∀ y : Ext w1, y.w.cell? ⟨w.heap.size, 1, none⟩ = some (.int .i64 n1) := fun y => y.cell c1
  have q2 : ∀ y : Ext w1, y.w.cell? ⟨w.heap.size, 2, none⟩ = some v1 := fun y => y.cell c2
  have q3 : ∀ y : Ext w1, y.w.cell? ⟨w.heap.size, 3, none⟩ = some (.int .i64 n2) := fun y => y.cell c3
  have q4 : ∀ y : Ext w1, y.w.cell? ⟨w.heap.size, 4, none⟩ = some v2 := fun y => y.cell c4
  have hp1 := hp.keep B1
  have QF := fun y : Ext w1 => fmtFunI_any n1 l1 v1 y.w ((h1.below B1 (Nat.le_refl _)).keep y.b) (hp1.keep y.b)
  rw [← HF.out] at QF
  have QF := Lib.hid QF
  have QG := fun y : Ext w1 => fmtFunI_any n2 l2 v2 y.w ((h2.below B1 (Nat.le_refl _)).keep y.b) (hp1.keep y.b)
  rw [← HG.out] at QG
  have QG := Lib.hid QG
  clear c0 c1 c2 c3 c4 G1 hp0
  go_wp2_with fail
  refine wp_region_ext _ (by kernel_rfl) (by kernel_rfl) ?_
  repeat (first | go_big_quiet_skip | (go_big_quiet_want; go_big_quiet_op; first | go_big_quiet_on | (apply Exists.intro; refine ⟨fun _ => ?_, ?_⟩; (first | (go_at_call 14; with_reducible exact ext_call (QF.out _)) | (go_at_call 14; with_reducible exact ext_call (QG.out _))); go_big_quiet_on)))
  refine wpQuiet_nil ?_
  rintro w2 ⟨⟨w2, b2⟩, rfl⟩
  try dsimp only
  have B2 := B1.after b2 B1.size
  have K2 := K1.keep b2
  have h32 := h3.below B2 (Nat.le_refl _)
  have hp2 := hp.keep B2
  clear QF QG q1 q2 q3 q4 K1 b2 B1 hp1 h1 h2 h3
  have G2 := K2.cell
  by_cases k1 : k = 1
  · subst k1
    have HP := Lib.hid (show partsL 1 S F G A = [setW, S, ofW, F] from rfl)
    go_wp2
    go_ret
    exact ⟨_, _, _, rfl, by rw [HP.out]; exact (OwnS.lit w2 _ _ rfl (by simp only [List.length_cons, List.length_nil]; unfold maxLen; omega) (Nat.le_refl _)).mono B2.size, B2.alloc B2.size _⟩
  · by_cases k5 : k = 5
    · subst k5
      have HP := Lib.hid (show partsL 5 S F G A = [setW, S, ofW, F] from rfl)
      go_wp2
      go_ret
      exact ⟨_, _, _, rfl, by rw [HP.out]; exact (OwnS.lit w2 _ _ rfl (by simp only [List.length_cons, List.length_nil]; unfold maxLen; omega) (Nat.le_refl _)).mono B2.size, B2.alloc B2.size _⟩
    · by_cases k2 : k = 2
      · subst k2
        have HP := Lib.hid (show partsL 2 S F G A = [ofW, F] from rfl)
        go_wp2
        go_ret
        exact ⟨_, _, _, rfl, by rw [HP.out]; exact (OwnS.lit w2 _ _ rfl (by simp only [List.length_cons, List.length_nil]; unfold maxLen; omega) (Nat.le_refl _)).mono B2.size, B2.alloc B2.size _⟩
      · by_cases k3 : k = 3
        · subst k3
          have HP := Lib.hid (show partsL 3 S F G A = [ofW, F, forW, G] from rfl)
          go_wp2
          go_ret
          exact ⟨_, _, _, rfl, by rw [HP.out]; exact (OwnS.lit w2 _ _ rfl (by simp only [List.length_cons, List.length_nil]; unfold maxLen; omega) (Nat.le_refl _)).mono B2.size, B2.alloc B2.size _⟩
        · by_cases k4 : k = 4
          · subst k4
            have HP := Lib.hid (show partsL 4 S F G A = [setW, S, ofW, F, andW, G] from rfl)
            go_wp2
            go_ret
            exact ⟨_, _, _, rfl, by rw [HP.out]; exact (OwnS.lit w2 _ _ rfl (by simp only [List.length_cons, List.length_nil]; unfold maxLen; omega) (Nat.le_refl _)).mono B2.size, B2.alloc B2.size _⟩
          · have hx : partsL k S F G A = [ofW, A] := by
              unfold partsL
              rw [if_neg (by omega), if_neg k2, if_neg k3, if_neg k4]
            have e1 : (k == 1) = false := by simpa using k1
            have e5 : (k == 5) = false := by simpa using k5
            have e2 : (k == 2) = false := by simpa using k2
            have e3 : (k == 3) = false := by simpa using k3
            have e4 : (k == 4) = false := by simpa using k4
            have hj := fmtFamI_any n3 l3 v3 w2 h32 hp2
            rw [← HA.out] at hj
            have HP := Lib.hid hx
            have HJ := Lib.hid hj
            clear hx hj k1 k2 k3 k4 k5
            go_wp2_with fail
            refine HJ.out.mono ?_
            rintro e w3 ⟨rfl, b3⟩
            have B3 := B2.after b3 B2.size
            go_wp2
            go_ret
            exact ⟨_, _, _, rfl, by rw [HP.out]; exact (OwnS.lit w3 [ofW, A] 2 rfl (by unfold maxLen; omega) (Nat.le_refl _)).mono B3.size, B3.alloc B3.size _⟩
end Go.Proofs.YtipejodijbjpcaaGreatDoor
end
