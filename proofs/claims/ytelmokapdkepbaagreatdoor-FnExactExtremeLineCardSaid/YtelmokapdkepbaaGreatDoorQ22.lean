/- Families as texts: both programs. Families as texts: the second program. Lists of claims as texts: both programs. Claims: the laws' own copies, sizes and equalities. The parts of a claim's text: the first program. Claims as texts: the first program. Claims as texts, in the second program's words: what is computed. -/
import Derived.Test.YtelmokapdkepbaaGreatDoorQ21
import Derived.Lib.MinMax
import Derived.Deep.DeepCutAuto
section
namespace Go.Proofs.YtelmokapdkepbaaGreatDoor
open Go.RowKit Go.G5

def bar : ByteArray := ⟨#[124]⟩
def famTx (g : Int) (l : List Int) : ByteArray := if isFamB g l = true then (if l = [] then noneB else joinB bar (l.map (setTx g))) else ByteArray.empty
theorem asc_ge (l : List Int) (hp : l.Pairwise (· < ·)) (h0 : ∀ x ∈ l, 0 ≤ x) : ∀ k, (h : k < l.length) → (k : Int) ≤ l[k] := by
  intro k
  induction k with
  | zero => intro h; have := h0 _ (List.getElem_mem h); omega
  | succ k ih =>
    intro h
    have h1 := ih (by omega)
    have h2 := List.pairwise_iff_getElem.1 hp k (k + 1) (by omega) h (by omega)
    omega
theorem fam_len {g : Int} {l : List Int} (h : isFamB g l = true) : l.length ≤ 64 := by
  obtain ⟨h0, h6, hb, hp⟩ := famOk h
  have h64 := pow_le64 h0 h6
  by_cases hl : l.length = 0
  · omega
  · have h1 := asc_ge l hp (fun x hx => (hb x hx).1) (l.length - 1) (by omega)
    have h2 := (hb _ (List.getElem_mem (show l.length - 1 < l.length by omega))).2
    omega
theorem fam_ok {g : Int} {l : List Int} (h : isFamB g l = true) : ∀ s ∈ l, setOk g s = true := by
  obtain ⟨h0, h6, hb, hp⟩ := famOk h
  intro s hs
  unfold setOk
  rw [inB_true.2 ⟨h0, h6⟩, isSet_true.2 (hb s hs)]; rfl
theorem bars_size (g : Int) (l : List Int) : (joinB bar (l.map (setTx g))).size ≤ l.length * 133 := by
  have := joinB_size bar 132 (l.map (setTx g)) (fun x hx => by
    obtain ⟨y, hy, rfl⟩ := List.mem_map.1 hx
    exact setTx_size g y)
  rw [List.length_map] at this
  exact this
theorem bars_take (g : Int) (l : List Int) (k : Nat) (hl : l.length ≤ 64) (hk : k ≤ l.length) : (joinB bar ((l.take k).map (setTx g))).size ≤ 22000 := by
  have h1 := bars_size g (l.take k)
  rw [List.length_take] at h1
  have : min k l.length = k := by omega
  rw [this] at h1
  omega
theorem bars_next (g : Int) (l : List Int) (k : Nat) (hk : k < l.length) : joinB bar ((l.take (k + 1)).map (setTx g)) = if k = 0 then setTx g l[k] else joinB bar ((l.take k).map (setTx g)) ++ bar ++ setTx g l[k] := by
  have h := joinB_take bar (l.map (setTx g)) k (by rw [List.length_map]; exact hk)
  rw [List.getElem_map, ← List.map_take, ← List.map_take] at h
  exact h
theorem famTx_size (g : Int) (l : List Int) : (famTx g l).size ≤ 10000 := by
  unfold famTx
  split
  · rename_i h
    split
    · show 4 ≤ 10000; omega
    · have h1 := bars_size g l
      have h2 := fam_len h
      omega
  · simp
theorem bars_emp (g : Int) (l : List Int) (h : ∀ s ∈ l, setOk g s = true) : (joinB bar (l.map (setTx g)) = ByteArray.empty) = (l = []) := by
  refine propext ⟨fun h2 => ?_, fun h2 => by subst h2; rfl⟩
  cases l with
  | nil => rfl
  | cons x l => exact absurd h2 (joinB_ne bar (setTx g x) (l.map (setTx g)) (setTx_ne g x (h x (by simp))))
theorem famTx_ne (g : Int) (l : List Int) (h : isFamB g l = true) : famTx g l ≠ ByteArray.empty := by
  unfold famTx
  rw [if_pos h]
  split
  · intro e
    exact absurd (congrArg ByteArray.size e) (by decide)
  · rename_i h0
    rw [Ne, bars_emp g l (fam_ok h)]
    exact h0
set_option maxHeartbeats 1000000 in
set_option maxRecDepth 100000 in
theorem fmtFamI_any (g : Int) (l : List Int) (v : Value) (w : World) (hv : Ints w v l) (hp : Pow w) :
    Calls Tryz.prog 35 #[.agg #[.int .i64 g, v]] w fun e w' => e = .returned (.string (famTx g l)) ∧ Below w.heap.size w w' := by
  have hv0 := hv
  obtain ⟨a, b, off, c, rfl, hlen, hix, hc, hb⟩ := hv.view Tryz.prog 22 3 Tryz.underlying22 intElem
  have K0 := Blk.new w 35 #[.int .i64 g, .slice a l.length c]
  have HC := Lib.hid hc
  have HIX := Lib.hid hix
  clear hc hix hlen
  go_enter Tryz.func35, Tryz.ntmps35
  go_wp2_with fail
  refine (isFamI_any g l _ _ (hv0.alloc _)).mono ?_
  rintro e w1 ⟨rfl, hb1⟩
  have K1 := K0.keep hb1
  have B1 : Below w.heap.size w w1 := (bl1 _ _).after hb1 (by simp)
  have G1 := K1.cell
  clear K0 hb1
  cases hf : isFamB g l with
  | false =>
    have hx : famTx g l = ByteArray.empty := by unfold famTx; rw [hf]; rfl
    have HX := Lib.hid hx
    clear hx hf
    go_wp2
    go_ret
    exact ⟨ret_str HX.out.symm, B1⟩
  | true =>
    have h64 := fam_len hf
    by_cases hl0 : l.length = 0
    · have hx : famTx g l = noneB := by unfold famTx; rw [if_pos hf, if_pos (List.eq_nil_of_length_eq_zero hl0)]
      have HX := Lib.hid hx
      have hz : ((l.length : Int) == 0) = true := by simp [hl0]
      have hz2 : (l.length == 0) = true := by simp [hl0]
      clear hx hf hl0 hz
      go_wp2
      go_ret
      exact ⟨ret_str HX.out.symm, B1⟩
    · have hx : famTx g l = joinB bar (l.map (setTx g)) := by unfold famTx; rw [if_pos hf, if_neg (fun h => hl0 (by rw [h]; rfl))]
      have HX := Lib.hid hx
      have hz : (l.length == 0) = false := by simpa using hl0
      have hzz : ((l.length : Int) == 0) = false := by simp; intro h; exact hl0 (by rw [h]; rfl)
      clear hx hf hl0
      go_wp2_with fail
      go_loopw [3, 16] (fun ov iv wr => ∃ (k : Nat) (p : Option Addr) (n cp : Nat), k ≤ l.length ∧ iv = .int .i64 k ∧ ov = .slice p n cp ∧ OwnS 9 w1.heap.size wr (.slice p n cp) ((l.take k).map (setTx g)) ∧ Below w1.heap.size w1 wr) (fun _ iv _ => l.length - (intOf iv).toNat)
      case atStart => exact ⟨0, _, _, _, Nat.zero_le _, rfl, rfl, OwnS.nil _ _ _, Below.refl _ _⟩
      case round =>
        obtain ⟨k, p, n, cp, hk, rfl, rfl, ho, B⟩ := hrel
        obtain ⟨wz, rfl⟩ : ∃ q : World, q = wr := ⟨_, rfl⟩
        have hpz := hp.keep (B1.after B B1.size)
        have Kz := K1.keep B
        have Gz := Kz.cell
        clear G1 hz hzz
        by_cases hlt : k < l.length
        · have hlt2 : (k : Int) < (l.length : Int) := by omega
          have hck := cells_below HC.out hb (B1.after B B1.size) (Nat.le_refl _) k hlt
          have hik := fun W => HIX.out W k hlt
          have hst : (l.take (k + 1)).map (setTx g) = (l.take k).map (setTx g) ++ [setTx g l[k]] := by
            rw [List.take_succ_eq_append_getElem hlt, List.map_append]; rfl
          have hkl : ((l.take k).map (setTx g)).length = k := by simp; omega
          obtain ⟨x, hx⟩ : ∃ x, x = l[k] := ⟨_, rfl⟩
          rw [← hx] at hck hst
          have HST := Lib.hid hst
          have HKL := Lib.hid hkl
          clear hx hst hkl
          have hF := Lib.hid (fmtSetI_any g x wz hpz)
          go_wp2_with fail
          refine hF.out.mono ?_
          rintro e w3 ⟨rfl, b3⟩
          have ho := ho.keep b3
          have B := B.after b3 B.size
          have zB := B.size
          clear b3 hF Gz
          go_wp2_with (at_builtin; refine wpList_appendT rfl _ _ _ rfl 9 Tryz.underlying52 strElem w1.heap.size (.slice p n cp) ((l.take k).map (setTx g)) [setTx g x] w3.heap.size 1 1 rfl rfl rfl (fun j y hy => by match j, hy with | 0, hy => (cases hy; exact cell_new _ _ _ _ _ rfl)) (ho.alloc _) (by rw [HKL.out]; simp; omega) (by simp; omega) ?_; intro v7 w7 o7 g7; obtain ⟨p7, i7, q7, rfl⟩ := o7.shape3)
          have rr := ho.lt
          have B7 := (B.alloc zB (.cells #[.string (setTx g x)] 9)).grown g7 (by simp; omega) (fun q hq => (rr _ hq).1)
          go_roundw
          case rel => exact ⟨k + 1, p7, i7, q7, by omega, by go_num, rfl, by rw [HST.out]; exact o7, B7⟩
          case measure => simp [intOf]; omega
        · have hkl : k = l.length := by omega
          have ho2 : OwnS 9 w1.heap.size wz (.slice p n cp) (l.map (setTx g)) := by
            rw [hkl, List.take_length] at ho; exact ho
          have hlt2 : ¬ (k : Int) < (l.length : Int) := by omega
          have hbs := bars_size g l
          have HJ := Lib.hid (join_own w1.heap.size wz _ (l.map (setTx g)) bar ho2 (by omega) (by rw [List.length_map]; omega))
          have BB := B1.after B B1.size
          clear hkl ho ho2 hpz hbs
          go_wp2_with fail
          refine HJ.out.mono ?_
          rintro e w3 ⟨rfl, b3⟩
          go_wp2
          go_ret
          exact ⟨ret_str HX.out.symm, BB.after b3 BB.size⟩
end Go.Proofs.YtelmokapdkepbaaGreatDoor
end
section
namespace Go.Proofs.YtelmokapdkepbaaGreatDoor
open Go.RowKit Go.G5

set_option maxHeartbeats 2000000 in
set_option maxRecDepth 100000 in
theorem fmtFamS_any (g : Int) (l : List Int) (v : Value) (w : World) (hv : Ints w v l) :
    Calls Tryz.prog 22 #[.agg #[.int .i64 g, v]] w fun e w' => e = .returned (.string (famTx g l)) ∧ Below w.heap.size w w' := by
  have hv0 := hv
  obtain ⟨a, b, off, c, rfl, hlen, hix, hc, hb⟩ := hv.view Tryz.prog 22 3 Tryz.underlying22 intElem
  have K0 := Blk.new w 35 #[.int .i64 g, .slice a l.length c]
  have HC := Lib.hid hc
  have HIX := Lib.hid hix
  clear hc hix hlen
  cases hf : isFamB g l with
  | false =>
    have hx : famTx g l = ByteArray.empty := by unfold famTx; rw [hf]; rfl
    have HX := Lib.hid hx
    have HF := Lib.hid hf
    clear hx hf
    go_enter Tryz.func22, Tryz.ntmps22
    go_wp2_with fail
    go_loopw [3, 4] (fun sv iv wr => iv = .int .i64 0 ∧ sv = .string ⟨#[]⟩ ∧ Below w.heap.size w wr ∧ Blk wr w.heap.size 35 #[.int .i64 g, .slice a l.length c]) (fun _ _ _ => 0)
    case atStart => exact ⟨rfl, rfl, bl1 _ _, K0⟩
    case round =>
      obtain ⟨rfl, rfl, B, K⟩ := hrel
      have G1 := K.cell
      by_cases hl0 : 0 < l.length
      · have hl1 : (0 : Int) < (l.length : Int) := by omega
        go_wp2_with fail
        refine (isFamS_any g l _ _ (hv0.below B (Nat.le_refl _))).mono ?_
        rintro e w1 ⟨rfl, hb1⟩
        rw [HF.out]
        have K := K.keep hb1
        have B := B.after hb1 B.size
        clear G1
        have G1 := K.cell
        go_wp2_with fail
        refine (isFamS_any g l _ _ (hv0.below B (Nat.le_refl _))).mono ?_
        rintro e w2 ⟨rfl, hb2⟩
        rw [HF.out]
        go_wp2
        go_ret
        exact ⟨ret_str HX.out.symm, B.after hb2 B.size⟩
      · have hl1 : ¬ (0 : Int) < (l.length : Int) := by omega
        go_wp2_with fail
        refine (isFamS_any g l _ _ (hv0.below B (Nat.le_refl _))).mono ?_
        rintro e w2 ⟨rfl, hb2⟩
        rw [HF.out]
        go_wp2
        go_ret
        exact ⟨ret_str HX.out.symm, B.after hb2 B.size⟩
  | true =>
    have h64 := fam_len hf
    have hlx : famTx g l = if l = [] then noneB else joinB bar (l.map (setTx g)) := by unfold famTx; rw [if_pos hf]
    have hem0 : (joinB bar (l.map (setTx g)) = ByteArray.empty) = (l = []) := bars_emp g l (fam_ok hf)
    have HEM := Lib.hid hem0
    have HLX := Lib.hid hlx
    have HF := Lib.hid hf
    clear hlx hf hem0
    go_enter Tryz.func22, Tryz.ntmps22
    go_wp2_with fail
    go_loopw [3, 4] (fun sv iv wr => ∃ (k : Nat) (S : ByteArray), k ≤ l.length ∧ iv = .int .i64 k ∧ sv = .string S ∧ S = joinB bar ((l.take k).map (setTx g)) ∧ Below w.heap.size w wr ∧ Blk wr w.heap.size 35 #[.int .i64 g, .slice a l.length c]) (fun _ iv _ => l.length - (intOf iv).toNat)
    case atStart => exact ⟨0, _, Nat.zero_le _, rfl, rfl, rfl, bl1 _ _, K0⟩
    case round =>
      obtain ⟨k, S, hk, rfl, rfl, hS, B, K⟩ := hrel
      obtain ⟨wz, rfl⟩ : ∃ q : World, q = wr := ⟨_, rfl⟩
      have hSs : S.size ≤ 22000 := by rw [hS]; exact bars_take g l k h64 hk
      have HS := Lib.hid hS
      clear hS K0
      have G1 := K.cell
      by_cases hlt : k < l.length
      · have hlt2 : (k : Int) < (l.length : Int) := by omega
        go_wp2_with fail
        refine (isFamS_any g l _ _ (hv0.below B (Nat.le_refl _))).mono ?_
        rintro e w1 ⟨rfl, hb1⟩
        rw [HF.out]
        have K := K.keep hb1
        have B := B.after hb1 B.size
        clear G1 hb1
        have hS := HS.out
        have hck := cells_below HC.out hb B (Nat.le_refl _) k hlt
        have hik := fun W => HIX.out W k hlt
        have hnx := bars_next g l k hlt
        rw [← hS] at hnx
        have hS0 : k = 0 → S = ByteArray.empty := fun h => by rw [hS, h]; rfl
        obtain ⟨x, hx⟩ : ∃ x, x = l[k] := ⟨_, rfl⟩
        rw [← hx] at hck hnx
        have hT := setTx_size g x
        have hF := fun y : Ext w1 => fmtSetS_any g x y.w
        obtain ⟨T, hTe⟩ : ∃ T, T = setTx g x := ⟨_, rfl⟩
        rw [← hTe] at hnx hT hF
        have HFF := Lib.hid hF
        have HNX := Lib.hid hnx
        have f0 := K.cell 0
        have f1 := K.cell 1
        simp only [List.getElem?_toArray, List.getElem?_cons_zero, List.getElem?_cons_succ] at f0 f1
        have q0 : ∀ y : Ext w1, y.w.cell? ⟨w.heap.size, 0, none⟩ = some (.int .i64 g) := fun y => y.cell f0
        have q1 : ∀ y : Ext w1, y.w.cell? ⟨w.heap.size, 1, none⟩ = some (.slice a l.length c) := fun y => y.cell f1
        have qk : ∀ y : Ext w1, y.w.cell? ⟨b, off + k, none⟩ = some (.int .i64 x) := fun y => y.cell hck
        clear hF hnx hx hTe hS HS f0 f1 hck
        by_cases hk0 : k = 0
        · have hSe := hS0 hk0
          subst hSe
          have HK0 := Lib.hid hk0
          have hgt : ¬ 0 < (k : Int) := by omega
          have hgt2 : ¬ 0 < k := by omega
          clear hS0 hk0
          go_wp2_with fail
          refine wp_region_ext _ (by kernel_rfl) (by kernel_rfl) ?_
          repeat (first | go_big_quiet_skip | (go_big_quiet_want; go_big_quiet_op; first | go_big_quiet_on | (apply Exists.intro; refine ⟨fun _ => ?_, ?_⟩; (go_at_call 23; with_reducible exact ext_call (HFF.out _)); go_big_quiet_on)))
          refine wpQuiet_nil ?_
          rintro w3 ⟨⟨w3, b3⟩, rfl⟩
          try dsimp only
          have B := B.after b3 B.size
          have K := K.keep b3
          go_wp2
          go_roundw
          case rel => exact ⟨k + 1, _, by omega, by go_num, rfl, by rw [HNX.out, if_pos HK0.out], B, K⟩
          case measure => simp [intOf]; omega
        · have hgt : 0 < (k : Int) := by omega
          have hgt2 : 0 < k := by omega
          have hS2 : (S ++ bar).size ≤ 22001 := by rw [ByteArray.size_append]; show S.size + 1 ≤ 22001; omega
          clear hS0
          go_wp2_with fail
          refine wp_region_ext _ (by kernel_rfl) (by kernel_rfl) ?_
          repeat (first | go_big_quiet_skip | (go_big_quiet_want; go_big_quiet_op; first | go_big_quiet_on | (apply Exists.intro; refine ⟨fun _ => ?_, ?_⟩; (go_at_call 23; with_reducible exact ext_call (HFF.out _)); go_big_quiet_on)))
          refine wpQuiet_nil ?_
          rintro w3 ⟨⟨w3, b3⟩, rfl⟩
          try dsimp only
          have B := B.after b3 B.size
          have K := K.keep b3
          go_wp2
          go_roundw
          case rel => exact ⟨k + 1, _, by omega, by go_num, rfl, by rw [HNX.out, if_neg hk0]; rfl, B, K⟩
          case measure => simp [intOf]; omega
      · have hlt2 : ¬ (k : Int) < (l.length : Int) := by omega
        have hSl : S = joinB bar (l.map (setTx g)) := by rw [HS.out, show k = l.length by omega, List.take_length]
        have hem := str_emp S
        have he2 : decide (S = ByteArray.empty) = decide (l = []) := by rw [hSl]; simp only [HEM.out]
        rw [he2] at hem
        cases h0 : decide (l = []) with
        | true =>
          have hl0 : famTx g l = noneB := by rw [HLX.out, if_pos (of_decide_eq_true h0)]
          rw [h0] at hem
          have HL0 := Lib.hid hl0
          clear h0 he2 hSl hl0 HS
          go_wp2_with fail
          refine (isFamS_any g l _ _ (hv0.below B (Nat.le_refl _))).mono ?_
          rintro e w2 ⟨rfl, hb2⟩
          rw [HF.out]
          go_wp2
          go_ret
          exact ⟨ret_str HL0.out.symm, B.after hb2 B.size⟩
        | false =>
          have hl0 : famTx g l = S := by rw [HLX.out, if_neg (of_decide_eq_false h0)]; exact hSl.symm
          rw [h0] at hem
          have HL0 := Lib.hid hl0
          clear h0 he2 hSl hl0 HS
          go_wp2
          go_ret
          exact ⟨ret_str HL0.out.symm, B⟩
end Go.Proofs.YtelmokapdkepbaaGreatDoor
end
section
namespace Go.Proofs.YtelmokapdkepbaaGreatDoor
open Go.RowKit Go.G5

def clip (x : Int) : Int := max (-9999) (min 9999 x)
theorem clip_bd (x : Int) : -9999 ≤ clip x ∧ clip x ≤ 9999 := by unfold clip; omega
theorem clip_inR (x : Int) : InR (clip x) := by have := clip_bd x; exact ⟨by omega, by omega⟩
def listTx (l : List Int) : ByteArray := if (l.length = 0 ∨ 40 < l.length) then noneB else joinB comma ((l.map clip).map itoaB)
theorem listTx_size (l : List Int) : (listTx l).size ≤ 880 := by
  unfold listTx
  split
  · show 4 ≤ 880; omega
  · rename_i h
    have h1 := commas_size (l.map clip) (fun x hx => by
      obtain ⟨y, _, rfl⟩ := List.mem_map.1 hx
      exact clip_inR y)
    rw [List.length_map] at h1
    omega
theorem listTx_ne (l : List Int) : listTx l ≠ ByteArray.empty := by
  unfold listTx
  split
  · intro e
    exact absurd (congrArg ByteArray.size e) (by decide)
  · rename_i h
    rw [Ne, commas_emp, List.map_eq_nil_iff]
    intro e
    subst e
    exact h (.inl rfl)
end Go.Proofs.YtelmokapdkepbaaGreatDoor
end
section
namespace Go.Proofs.YtelmokapdkepbaaGreatDoor
open Go.RowKit Go.G5

/-- a claim's value -/
@[reducible] def clV (k n1 : Int) (v1 : Value) (n2 : Int) (v2 : Value) (n3 : Int) (v3 : Value) (q st : Int) (v4 : Value) : Value :=
  .agg #[.int .i64 k, .int .i64 n1, v1, .int .i64 n2, v2, .int .i64 n3, v3, .int .i64 q, .int .i64 st, v4]
@[reducible] def clC (k n1 : Int) (v1 : Value) (n2 : Int) (v2 : Value) (n3 : Int) (v3 : Value) (q st : Int) (v4 : Value) : Array Value :=
  #[.int .i64 k, .int .i64 n1, v1, .int .i64 n2, v2, .int .i64 n3, v3, .int .i64 q, .int .i64 st, v4]

end Go.Proofs.YtelmokapdkepbaaGreatDoor
end
section
namespace Go.Proofs.YtelmokapdkepbaaGreatDoor
open Go.RowKit Go.G5

def setW : ByteArray := ⟨#[115, 101, 116]⟩
def ofW : ByteArray := ⟨#[111, 102]⟩
def forW : ByteArray := ⟨#[102, 111, 114]⟩
def andW : ByteArray := ⟨#[97, 110, 100]⟩
def partsL (k : Int) (S F G A : ByteArray) : List ByteArray :=
  if k = 1 ∨ k = 5 then [setW, S, ofW, F] else if k = 2 then [ofW, F] else if k = 3 then [ofW, F, forW, G] else if k = 4 then [setW, S, ofW, F, andW, G] else [ofW, A]

end Go.Proofs.YtelmokapdkepbaaGreatDoor
end
section
namespace Go.Proofs.YtelmokapdkepbaaGreatDoor
open Go.RowKit Go.G5

def listW : ByteArray := ⟨#[108, 105, 115, 116]⟩
def space : ByteArray := ⟨#[32]⟩
def lim (q : Int) : Int := max (-99999) (min 99999 q)
theorem lim_inR (q : Int) : InR (lim q) := by unfold lim; exact ⟨by omega, by omega⟩
def headL (k q : Int) (l : List Int) : List ByteArray := [claimWord k, itoaB (lim q), listW, listTx l]
def claimPs (k n1 : Int) (l1 : List Int) (n2 : Int) (l2 : List Int) (n3 : Int) (l3 : List Int) (q st : Int) (l4 : List Int) : List ByteArray :=
  headL k q l4 ++ partsL k (setTx n1 st) (funTx n1 l1) (funTx n2 l2) (famTx n3 l3)
def claimTx (k n1 : Int) (l1 : List Int) (n2 : Int) (l2 : List Int) (n3 : Int) (l3 : List Int) (q st : Int) (l4 : List Int) : ByteArray :=
  if Lib.containsS (claimPs k n1 l1 n2 l2 n3 l3 q st l4) ByteArray.empty = true then ByteArray.empty else joinB space (claimPs k n1 l1 n2 l2 n3 l3 q st l4)
theorem claimWord_size (k : Int) : (claimWord k).size ≤ 9 := by
  unfold claimWord
  repeat (split; (show _ ≤ 9; decide))
  decide
theorem partsL_size (k : Int) (S F G A : ByteArray) (hS : S.size ≤ 10000) (hF : F.size ≤ 10000) (hG : G.size ≤ 10000) (hA : A.size ≤ 10000) : (∀ x ∈ partsL k S F G A, x.size ≤ 10000) ∧ (partsL k S F G A).length ≤ 6 := by
  have w1 : setW.size ≤ 10000 := by decide
  have w2 : ofW.size ≤ 10000 := by decide
  have w3 : forW.size ≤ 10000 := by decide
  have w4 : andW.size ≤ 10000 := by decide
  unfold partsL
  split
  · simp_all
  · split
    · simp_all
    · split
      · simp_all
      · split <;> simp_all
theorem claimPs_size (k n1 : Int) (l1 : List Int) (n2 : Int) (l2 : List Int) (n3 : Int) (l3 : List Int) (q st : Int) (l4 : List Int) : (∀ x ∈ claimPs k n1 l1 n2 l2 n3 l3 q st l4, x.size ≤ 10000) ∧ (claimPs k n1 l1 n2 l2 n3 l3 q st l4).length ≤ 10 := by
  have hp := partsL_size k (setTx n1 st) (funTx n1 l1) (funTx n2 l2) (famTx n3 l3) (by have := setTx_size n1 st; omega) (by have := funTx_size n1 l1; omega) (by have := funTx_size n2 l2; omega) (famTx_size n3 l3)
  have a1 := claimWord_size k
  have a2 := itoaB_size (lim q) (lim_inR q)
  have a3 : listW.size ≤ 10000 := by decide
  have a4 := listTx_size l4
  unfold claimPs
  refine ⟨fun x hx => ?_, ?_⟩
  · rcases List.mem_append.1 hx with h | h
    · unfold headL at h
      simp only [List.mem_cons, List.not_mem_nil, or_false] at h
      rcases h with rfl | rfl | rfl | rfl
      · omega
      · omega
      · omega
      · omega
    · exact hp.1 x h
  · rw [List.length_append]
    have := hp.2
    show 4 + _ ≤ 10
    omega
theorem partsL_pos (k : Int) (S F G A : ByteArray) : 0 < (partsL k S F G A).length := by
  unfold partsL
  split
  · simp
  · split
    · simp
    · split
      · simp
      · split <;> simp
theorem OwnS.head {E : TypeId} {B : Nat} {w : World} {v : Value} {xs : List ByteArray} (h : OwnS E B w v xs) (hne : 0 < xs.length) : ∃ g n c, v = .slice (some ⟨g, 0, none⟩) n c := by
  rcases h.at with ⟨a, c, _, rfl⟩ | ⟨g, c, rfl, _⟩
  · simp at hne
  · exact ⟨g, _, c, rfl⟩
end Go.Proofs.YtelmokapdkepbaaGreatDoor
end
section
namespace Go.Proofs.YtelmokapdkepbaaGreatDoor
open Go.RowKit Go.G5

theorem joinB_cons2 (sep x y : ByteArray) (r : List ByteArray) : joinB sep (x :: y :: r) = x ++ sep ++ joinB sep (y :: r) := by
  refine ba_ext ?_
  rw [ba_app, ba_app]
  show Lib.join ((x :: y :: r).map (·.data.toList)) sep.data.toList = x.data.toList ++ sep.data.toList ++ Lib.join ((y :: r).map (·.data.toList)) sep.data.toList
  rw [List.map_cons, List.map_cons, Lib.join_cons, Lib.join_cons]
  simp [Lib.joinTail, List.append_assoc]
def listS : ByteArray := ⟨#[32, 108, 105, 115, 116, 32]⟩
def ofS : ByteArray := ⟨#[32, 111, 102, 32]⟩
def forS : ByteArray := ⟨#[32, 102, 111, 114, 32]⟩
def andS : ByteArray := ⟨#[32, 97, 110, 100, 32]⟩
def setS : ByteArray := ⟨#[32, 115, 101, 116, 32]⟩
def headTx (k q : Int) (l : List Int) : ByteArray := claimWord k ++ space ++ itoaB (lim q) ++ listS ++ listTx l
theorem d1 : space.data.toList = [32] := rfl
theorem d2 : ofW.data.toList = [111, 102] := rfl
theorem d3 : forW.data.toList = [102, 111, 114] := rfl
theorem d4 : andW.data.toList = [97, 110, 100] := rfl
theorem d5 : setW.data.toList = [115, 101, 116] := rfl
theorem d6 : listW.data.toList = [108, 105, 115, 116] := rfl
theorem d7 : listS.data.toList = [32, 108, 105, 115, 116, 32] := rfl
theorem d8 : ofS.data.toList = [32, 111, 102, 32] := rfl
theorem d9 : forS.data.toList = [32, 102, 111, 114, 32] := rfl
theorem d10 : andS.data.toList = [32, 97, 110, 100, 32] := rfl
theorem d11 : setS.data.toList = [32, 115, 101, 116, 32] := rfl
theorem join_of (k q : Int) (l : List Int) (F : ByteArray) : joinB space (headL k q l ++ [ofW, F]) = headTx k q l ++ ofS ++ F := by
  unfold headL headTx
  simp only [List.cons_append, List.nil_append, joinB_cons2, joinB_one]
  refine ba_ext ?_
  simp [d1, d2, d6, d7, d8]
theorem join_for (k q : Int) (l : List Int) (F G : ByteArray) : joinB space (headL k q l ++ [ofW, F, forW, G]) = headTx k q l ++ ofS ++ F ++ forS ++ G := by
  unfold headL headTx
  simp only [List.cons_append, List.nil_append, joinB_cons2, joinB_one]
  refine ba_ext ?_
  simp [d1, d2, d3, d6, d7, d8, d9]
theorem join_set (k q : Int) (l : List Int) (S F : ByteArray) : joinB space (headL k q l ++ [setW, S, ofW, F]) = headTx k q l ++ setS ++ S ++ ofS ++ F := by
  unfold headL headTx
  simp only [List.cons_append, List.nil_append, joinB_cons2, joinB_one]
  refine ba_ext ?_
  simp [d1, d2, d5, d6, d7, d8, d11]
theorem join_and (k q : Int) (l : List Int) (S F G : ByteArray) : joinB space (headL k q l ++ [setW, S, ofW, F, andW, G]) = headTx k q l ++ setS ++ S ++ ofS ++ F ++ andS ++ G := by
  unfold headL headTx
  simp only [List.cons_append, List.nil_append, joinB_cons2, joinB_one]
  refine ba_ext ?_
  simp [d1, d2, d4, d5, d6, d7, d8, d10, d11]
theorem word_ne (k : Int) (h : 1 ≤ k ∧ k ≤ 7) : claimWord k ≠ ByteArray.empty := by
  have : (claimWord k).size ≠ 0 := by
    rcases (show k = 1 ∨ k = 2 ∨ k = 3 ∨ k = 4 ∨ k = 5 ∨ k = 6 ∨ k = 7 by omega) with rfl | rfl | rfl | rfl | rfl | rfl | rfl <;> decide
  intro e
  exact this (ba_emp.2 e)
theorem word_emp (k : Int) (h : ¬ (1 ≤ k ∧ k ≤ 7)) : claimWord k = ByteArray.empty := by
  unfold claimWord
  rw [if_neg (by omega), if_neg (by omega), if_neg (by omega), if_neg (by omega), if_neg (by omega), if_neg (by omega), if_neg (by omega)]; rfl
theorem emp_ne (b : ByteArray) (h : b.size ≠ 0) : ¬ ByteArray.empty = b := fun e => h (by rw [← e]; rfl)
theorem head_mem (k q : Int) (l : List Int) (r : List ByteArray) : ByteArray.empty ∈ headL k q l ++ r ↔ (ByteArray.empty = claimWord k ∨ ByteArray.empty ∈ r) := by
  have a2 : ¬ ByteArray.empty = itoaB (lim q) := fun e => itoaB_ne _ e.symm
  have a3 : ¬ ByteArray.empty = listW := emp_ne _ (by decide)
  have a4 : ¬ ByteArray.empty = listTx l := fun e => listTx_ne _ e.symm
  simp [headL, a2, a3, a4]
theorem claimTx_is (k n1 : Int) (l1 : List Int) (n2 : Int) (l2 : List Int) (n3 : Int) (l3 : List Int) (q st : Int) (l4 : List Int) (hk : 1 ≤ k ∧ k ≤ 7) (r : List ByteArray) (hr : partsL k (setTx n1 st) (funTx n1 l1) (funTx n2 l2) (famTx n3 l3) = r) :
    claimTx k n1 l1 n2 l2 n3 l3 q st l4 = if Lib.containsS r ByteArray.empty = true then ByteArray.empty else joinB space (headL k q l4 ++ r) := by
  have hps : claimPs k n1 l1 n2 l2 n3 l3 q st l4 = headL k q l4 ++ r := by unfold claimPs; rw [hr]
  unfold claimTx
  rw [hps]
  have hw : ¬ ByteArray.empty = claimWord k := fun e => word_ne k hk e.symm
  by_cases hm : Lib.containsS r ByteArray.empty = true
  · rw [if_pos hm, if_pos ((Lib.containsS_iff _ _).2 ((head_mem k q l4 r).2 (.inr ((Lib.containsS_iff _ _).1 hm))))]
  · rw [if_neg hm, if_neg (fun h => ((head_mem k q l4 r).1 ((Lib.containsS_iff _ _).1 h)).elim hw (fun h => hm ((Lib.containsS_iff _ _).2 h)))]
theorem of_ne : ¬ ByteArray.empty = ofW := emp_ne _ (by decide)
theorem for_ne : ¬ ByteArray.empty = forW := emp_ne _ (by decide)
theorem and_ne : ¬ ByteArray.empty = andW := emp_ne _ (by decide)
theorem set_ne : ¬ ByteArray.empty = setW := emp_ne _ (by decide)
end Go.Proofs.YtelmokapdkepbaaGreatDoor
end
