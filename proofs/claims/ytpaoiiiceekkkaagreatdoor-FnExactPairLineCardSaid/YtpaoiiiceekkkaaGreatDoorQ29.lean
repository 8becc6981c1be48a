/- Numbers that are joined: the first program. Numbers that are joined: the second program. Functions as texts: both programs. Sets as texts: both programs. -/
import Derived.Test.YtpaoiiiceekkkaaGreatDoorQ28
section
namespace Go.Proofs.YtpaoiiiceekkkaaGreatDoor
open Go.RowKit Go.G5

def comma : ByteArray := ⟨#[44]⟩
theorem commas_size (l : List Int) (h : ∀ x ∈ l, InR x) : (joinB comma (l.map itoaB)).size ≤ l.length * 22 := by
  have := joinB_size comma 21 (l.map itoaB) (fun x hx => by
    obtain ⟨y, hy, rfl⟩ := List.mem_map.1 hx
    exact itoaB_size y (h y hy))
  rw [List.length_map] at this
  exact this
set_option maxHeartbeats 1000000 in
set_option maxRecDepth 100000 in
theorem joinIntsI_any (l : List Int) (v : Value) (w : World) (hv : Ints w v l) (hl : l.length ≤ 1000) (hp : Pow w) :
    Calls Tryz.prog 107 #[v] w fun e w' => e = .returned (.string (joinB comma (l.map itoaB))) ∧ Below w.heap.size w w' := by
  have hin := hv.inR
  have hsz := commas_size l hin
  obtain ⟨a, b, off, c, rfl, hlen, hix, hc, hb⟩ := hv.view Tryz.prog 22 3 Tryz.underlying22 intElem
  have HC := Lib.hid hc
  have HIN := Lib.hid hin
  have HIX := Lib.hid hix
  clear hc hin hix hlen
  go_enter Tryz.func107, Tryz.ntmps107
  go_wp2_with (at_make; refine wpList_makeT rfl _ _ _ rfl 9 Tryz.underlying72 strElem l.length _ rfl rfl rfl (by omega) ?_; intro w2 hown hg)
  have b2 : Below w.heap.size w w2 := (Below.refl _ _).grown hg (Nat.le_refl _) (by simp)
  go_loopw [3, 11] (fun ov iv wr => ∃ (k : Nat) (p : Option Addr) (n cp : Nat), k ≤ l.length ∧ iv = .int .i64 k ∧ ov = .slice p n cp ∧ OwnS 9 w.heap.size wr (.slice p n cp) ((l.take k).map itoaB) ∧ Below w.heap.size w wr) (fun _ iv _ => l.length - (intOf iv).toNat)
  case atStart => exact ⟨0, _, _, _, Nat.zero_le _, rfl, rfl, hown, b2⟩
  case round =>
    obtain ⟨k, p, n, cp, hk, rfl, rfl, ho, B⟩ := hrel
    obtain ⟨wz, rfl⟩ : ∃ q : World, q = wr := ⟨_, rfl⟩
    have hpz := hp.keep B
    clear hown b2 hg
    by_cases hlt : k < l.length
    · have hlt2 : (k : Int) < (l.length : Int) := by omega
      have hrow := cells_below HC.out hb B (Nat.le_refl _)
      have hck := hrow k hlt
      have hik := fun W => HIX.out W k hlt
      have hst : (l.take (k + 1)).map itoaB = (l.take k).map itoaB ++ [itoaB l[k]] := by
        rw [List.take_succ_eq_append_getElem hlt, List.map_append]; rfl
      have hxr := HIN.out l[k] (List.getElem_mem hlt)
      have hkl : ((l.take k).map itoaB).length = k := by simp; omega
      obtain ⟨x, hx⟩ : ∃ x, x = l[k] := ⟨_, rfl⟩
      rw [← hx] at hck hst hxr
      have HST := Lib.hid hst
      have HKL := Lib.hid hkl
      clear hx hrow hst hkl
      have hF := Lib.hid (fmtI_any x hxr wz hpz)
      go_wp2_with fail
      refine hF.out.mono ?_
      rintro e w3 ⟨rfl, b3⟩
      have ho := ho.keep b3
      have B := B.after b3 B.size
      have zB := B.size
      clear b3 hF
      go_wp2_with (at_builtin; refine wpList_appendT rfl _ _ _ rfl 9 Tryz.underlying72 strElem w.heap.size (.slice p n cp) ((l.take k).map itoaB) [itoaB x] w3.heap.size 1 1 rfl rfl rfl (fun j y hy => by match j, hy with | 0, hy => (cases hy; exact cell_new _ _ _ _ _ rfl)) (ho.alloc _) (by rw [HKL.out]; simp; omega) (by simp; omega) ?_; intro v7 w7 o7 g7; obtain ⟨p7, i7, q7, rfl⟩ := o7.shape3)
      have rr := ho.lt
      have B7 := (B.alloc zB (.cells #[.string (itoaB x)] 9)).grown g7 (by simp; omega) (fun q hq => (rr _ hq).1)
      go_roundw
      case rel => exact ⟨k + 1, p7, i7, q7, by omega, by go_num, rfl, by rw [HST.out]; exact o7, B7⟩
      case measure => simp [intOf]; omega
    · have hkl : k = l.length := by omega
      have ho2 : OwnS 9 w.heap.size wz (.slice p n cp) (l.map itoaB) := by
        rw [hkl, List.take_length] at ho; exact ho
      have hlt2 : ¬ (k : Int) < (l.length : Int) := by omega
      have HJ := Lib.hid (join_own w.heap.size wz _ (l.map itoaB) comma ho2 (by omega) (by rw [List.length_map]; omega))
      clear hkl ho ho2 hpz
      go_wp2_with fail
      refine HJ.out.mono ?_
      rintro e w3 ⟨rfl, b3⟩
      go_wp2
      go_ret
      exact ⟨rfl, B.after b3 B.size⟩
end Go.Proofs.YtpaoiiiceekkkaaGreatDoor
end
section
namespace Go.Proofs.YtpaoiiiceekkkaaGreatDoor
open Go.RowKit Go.G5

def noneB : ByteArray := ⟨#[110, 111, 110, 101]⟩
def numB (l : List Int) : ByteArray := if l = [] then noneB else joinB comma (l.map itoaB)
theorem commas_take (l : List Int) (k : Nat) (h : ∀ x ∈ l, InR x) (hl : l.length ≤ 1000) (hk : k ≤ l.length) : (joinB comma ((l.take k).map itoaB)).size ≤ 22000 := by
  have h1 := commas_size (l.take k) (fun x hx => h x (List.mem_of_mem_take hx))
  rw [List.length_take] at h1
  have : min k l.length = k := by omega
  rw [this] at h1
  omega
theorem commas_next (l : List Int) (k : Nat) (hk : k < l.length) : joinB comma ((l.take (k + 1)).map itoaB) = if k = 0 then itoaB l[k] else joinB comma ((l.take k).map itoaB) ++ comma ++ itoaB l[k] := by
  have h := joinB_take comma (l.map itoaB) k (by rw [List.length_map]; exact hk)
  rw [List.getElem_map, ← List.map_take, ← List.map_take] at h
  exact h
theorem commas_emp (l : List Int) : (joinB comma (l.map itoaB) = ByteArray.empty) = (l = []) := by
  refine propext ⟨fun h => ?_, fun h => by subst h; rfl⟩
  cases l with
  | nil => rfl
  | cons x l => exact absurd h (joinB_ne comma (itoaB x) (l.map itoaB) (itoaB_ne x))
theorem str_emp (b : ByteArray) : (b.toList == []) = decide (b = ByteArray.empty) := by
  rw [Lib.toList_data]
  by_cases h : b = ByteArray.empty
  · subst h; rfl
  · rw [decide_eq_false h]
    cases hb : b.data.toList with
    | nil => exact absurd (ba_ext (by rw [hb]; rfl)) h
    | cons x r => rfl

set_option maxHeartbeats 1000000 in
set_option maxRecDepth 100000 in
theorem numS_any (l : List Int) (v : Value) (w : World) (hv : Ints w v l) (hl : l.length ≤ 1000) :
    Calls Tryz.prog 68 #[v] w fun e w' => e = .returned (.string (numB l)) ∧ Below w.heap.size w w' := by
  have hin := hv.inR
  obtain ⟨a, b, off, c, rfl, hlen, hix, hc, hb⟩ := hv.view Tryz.prog 22 3 Tryz.underlying22 intElem
  have HC := Lib.hid hc
  have HIN := Lib.hid hin
  have HIX := Lib.hid hix
  clear hc hin hix hlen
  go_enter Tryz.func68, Tryz.ntmps68
  go_wp2_with fail
  go_loopw [3, 4] (fun sv iv wr => ∃ (k : Nat) (S : ByteArray), k ≤ l.length ∧ iv = .int .i64 k ∧ sv = .string S ∧ S = joinB comma ((l.take k).map itoaB) ∧ Below w.heap.size w wr) (fun _ iv _ => l.length - (intOf iv).toNat)
  case atStart => exact ⟨0, _, Nat.zero_le _, rfl, rfl, rfl, Below.refl _ _⟩
  case round =>
    obtain ⟨k, S, hk, rfl, rfl, hS, B⟩ := hrel
    obtain ⟨wz, rfl⟩ : ∃ q : World, q = wr := ⟨_, rfl⟩
    have hSs : S.size ≤ 22000 := by rw [hS]; exact commas_take l k HIN.out hl hk
    by_cases hlt : k < l.length
    · have hlt2 : (k : Int) < (l.length : Int) := by omega
      have hck := cells_below HC.out hb B (Nat.le_refl _) k hlt
      have hik := fun W => HIX.out W k hlt
      have hnx := commas_next l k hlt
      have hxr := HIN.out l[k] (List.getElem_mem hlt)
      rw [← hS] at hnx
      have hS0 : k = 0 → S = ByteArray.empty := fun h => by rw [hS, h]; rfl
      obtain ⟨x, hx⟩ : ∃ x, x = l[k] := ⟨_, rfl⟩
      rw [← hx] at hck hnx hxr
      have hT := itoaB_size x hxr
      have hF := fmtS_any x hxr wz
      obtain ⟨T, hTe⟩ : ∃ T, T = itoaB x := ⟨_, rfl⟩
      rw [← hTe] at hnx hT hF
      have HF := Lib.hid hF
      have HNX := Lib.hid hnx
      clear hF hnx hx hTe hS
      by_cases hk0 : k = 0
      · have hSe := hS0 hk0
        subst hSe
        have HK0 := Lib.hid hk0
        have hgt : ¬ 0 < (k : Int) := by omega
        have hgt2 : ¬ 0 < k := by omega
        clear hS0 hk0
        go_wp2_with fail
        refine HF.out.mono ?_
        rintro e w3 ⟨rfl, b3⟩
        have B := B.after b3 B.size
        go_wp2
        go_roundw
        case rel => exact ⟨k + 1, _, by omega, by go_num, rfl, by rw [HNX.out, if_pos HK0.out], B⟩
        case measure => simp [intOf]; omega
      · have hgt : 0 < (k : Int) := by omega
        have hgt2 : 0 < k := by omega
        have hS2 : (S ++ comma).size ≤ 22001 := by rw [ByteArray.size_append]; show S.size + 1 ≤ 22001; omega
        clear hS0
        go_wp2_with fail
        refine HF.out.mono ?_
        rintro e w3 ⟨rfl, b3⟩
        have B := B.after b3 B.size
        go_wp2
        go_roundw
        case rel => exact ⟨k + 1, _, by omega, by go_num, rfl, by rw [HNX.out, if_neg hk0]; rfl, B⟩
        case measure => simp [intOf]; omega
    · have hlt2 : ¬ (k : Int) < (l.length : Int) := by omega
      have hSl : S = joinB comma (l.map itoaB) := by rw [hS, show k = l.length by omega, List.take_length]
      have hem := str_emp S
      have he2 : decide (S = ByteArray.empty) = decide (l = []) := by rw [hSl]; simp only [commas_emp]
      rw [he2] at hem
      cases h0 : decide (l = []) with
      | true =>
        have hl0 : numB l = noneB := by unfold numB; rw [if_pos (of_decide_eq_true h0)]
        rw [h0] at hem
        have HL0 := Lib.hid hl0
        clear h0 he2 hSl hl0 hS
        go_wp2
        go_ret
        exact ⟨ret_str HL0.out.symm, B⟩
      | false =>
        have hl0 : numB l = S := by unfold numB; rw [if_neg (of_decide_eq_false h0)]; exact hSl.symm
        rw [h0] at hem
        have HL0 := Lib.hid hl0
        clear h0 he2 hSl hl0 hS
        go_wp2
        go_ret
        exact ⟨ret_str HL0.out.symm, B⟩
end Go.Proofs.YtpaoiiiceekkkaaGreatDoor
end
section
namespace Go.Proofs.YtpaoiiiceekkkaaGreatDoor
open Go.RowKit Go.G5

theorem fun_len {n : Int} {l : List Int} (h : isFunB n l = true) : l.length ≤ 32 := by
  obtain ⟨_, _, _, _, h32, _⟩ := fun_nat h
  exact h32
def funTx (n : Int) (l : List Int) : ByteArray := if isFunB n l = true then joinB comma (l.map itoaB) else ByteArray.empty
theorem funTx_size (n : Int) (l : List Int) : (funTx n l).size ≤ 704 := by
  unfold funTx
  split
  · rename_i h
    obtain ⟨N, _, _, _, h32, hlb⟩ := fun_nat h
    have := commas_size l (fun x hx => by
      obtain ⟨k, hk, rfl⟩ := List.mem_iff_getElem.1 hx
      have := hlb k hk
      exact ⟨by omega, by omega⟩)
    omega
  · simp
set_option maxHeartbeats 1000000 in
set_option maxRecDepth 100000 in
theorem fmtFunI_any (n : Int) (l : List Int) (v : Value) (w : World) (hv : Ints w v l) (hp : Pow w) :
    Calls Tryz.prog 22 #[.agg #[.int .i64 n, v]] w fun e w' => e = .returned (.string (funTx n l)) ∧ Below w.heap.size w w' := by
  have hv0 := hv
  obtain ⟨a, c, rfl⟩ := hv.shape
  have K0 := Blk.new w 27 #[.int .i64 n, .slice a l.length c]
  go_enter Tryz.func22, Tryz.ntmps22
  go_wp2_with fail
  refine (isFunI_any n l _ _ (hv0.alloc _)).mono ?_
  rintro e w1 ⟨rfl, hb1⟩
  have K1 := K0.keep hb1
  have B1 : Below w.heap.size w w1 := (bl1 _ _).after hb1 (by simp)
  have G1 := K1.cell
  cases hf : isFunB n l with
  | false =>
    have hx : funTx n l = ByteArray.empty := by unfold funTx; rw [hf]; rfl
    have HX := Lib.hid hx
    clear hx hf
    go_wp2
    go_ret
    exact ⟨ret_str HX.out.symm, B1⟩
  | true =>
    have hx : funTx n l = joinB comma (l.map itoaB) := by unfold funTx; rw [if_pos hf]
    have h32 := fun_len hf
    have HJ := Lib.hid (joinIntsI_any l _ w1 (hv0.below B1 (Nat.le_refl _)) (by omega) (hp.keep B1))
    have HX := Lib.hid hx
    clear hx hf h32
    go_wp2_with fail
    refine HJ.out.mono ?_
    rintro e w2 ⟨rfl, hb2⟩
    go_wp2
    go_ret
    exact ⟨ret_str HX.out.symm, B1.after hb2 B1.size⟩
end Go.Proofs.YtpaoiiiceekkkaaGreatDoor
end
section
namespace Go.Proofs.YtpaoiiiceekkkaaGreatDoor
open Go.RowKit Go.G5

def dashB : ByteArray := ⟨#[45]⟩
def setOk (n s : Int) : Bool := inB n 0 6 && isSet n.toNat s
def setTx (n s : Int) : ByteArray := if setOk n s = true then (if s = 0 then dashB else joinB comma ((elL s).map itoaB)) else ByteArray.empty
theorem setOk_true {n s : Int} (h : setOk n s = true) : 0 ≤ n ∧ n ≤ 6 ∧ 0 ≤ s ∧ s < 64 := by
  unfold setOk at h
  rw [Bool.and_eq_true] at h
  have h1 := inB_true.1 h.1
  have h2 := isSet_true.1 h.2
  have := pow_le64 h1.1 h1.2
  exact ⟨h1.1, h1.2, h2.1, by omega⟩
theorem elL_nil : ∀ s : Nat, s < 64 → (famOf s 6 = [] ↔ s = 0) := by decide +kernel
theorem elL_nil' (s : Int) (h0 : 0 ≤ s) (h : s < 64) : elL s = [] ↔ s = 0 := by
  unfold elL
  rw [elL_nil s.toNat (by omega)]
  omega
theorem elL_inR (s : Int) : ∀ x ∈ elL s, InR x := fun x hx => by
  have := elL_bd6 s x hx
  exact ⟨by omega, by omega⟩
theorem setTx_size (n s : Int) : (setTx n s).size ≤ 132 := by
  unfold setTx
  split
  · split
    · show 1 ≤ 132; omega
    · have h1 := commas_size (elL s) (elL_inR s)
      have h2 := elL_len6 s
      omega
  · simp
theorem setTx_ne (n s : Int) (h : setOk n s = true) : setTx n s ≠ ByteArray.empty := by
  unfold setTx
  rw [if_pos h]
  have hs := setOk_true h
  split
  · intro e
    have := congrArg ByteArray.size e
    exact absurd this (by decide)
  · rename_i h0
    rw [Ne, commas_emp, elL_nil' s hs.2.2.1 hs.2.2.2]
    exact h0
set_option maxHeartbeats 1000000 in
set_option maxRecDepth 100000 in
theorem fmtSetI_any (n s : Int) (w : World) (hp : Pow w) :
    Calls Tryz.prog 58 #[.int .i64 n, .int .i64 s] w fun e w' => e = .returned (.string (setTx n s)) ∧ Below w.heap.size w w' := by
  have hwi := within_any n 0 6 w
  cases h1 : inB n 0 6 with
  | false =>
    have hx : setTx n s = ByteArray.empty := by unfold setTx setOk; rw [h1]; rfl
    have HX := Lib.hid hx
    rw [h1] at hwi
    have HW := Lib.hid hwi
    clear hwi hx h1
    go_enter Tryz.func58, Tryz.ntmps58
    go_wp2_with fail
    refine HW.out.mono ?_
    rintro e w1 ⟨rfl, rfl⟩
    go_wp2
    go_ret
    exact ⟨ret_str HX.out.symm, Below.refl _ _⟩
  | true =>
    have hb := inB_true.1 h1
    have his := isSetOf_i n s w hb.1 (by omega)
    rw [h1] at hwi
    have HW := Lib.hid hwi
    cases h2 : isSet n.toNat s with
    | false =>
      have hx : setTx n s = ByteArray.empty := by unfold setTx setOk; rw [h1, h2]; rfl
      rw [h2] at his
      have HX := Lib.hid hx
      have HI := Lib.hid his
      clear hwi hx h1 h2 his
      go_enter Tryz.func58, Tryz.ntmps58
      go_wp2_with fail
      refine HW.out.mono ?_
      rintro e w1 ⟨rfl, rfl⟩
      go_wp2_with fail
      refine HI.out.mono ?_
      rintro e w1 ⟨rfl, rfl⟩
      go_wp2
      go_ret
      exact ⟨ret_str HX.out.symm, Below.refl _ _⟩
    | true =>
      have hok : setOk n s = true := by unfold setOk; rw [h1, h2]; rfl
      obtain ⟨_, _, hs0, hs64⟩ := setOk_true hok
      rw [h2] at his
      have HI := Lib.hid his
      by_cases hz : s = 0
      · have hx : setTx n s = dashB := by unfold setTx; rw [if_pos hok, if_pos hz]
        have HX := Lib.hid hx
        have hz2 : (s == 0) = true := by simpa using hz
        clear hwi hx h1 h2 his hok hz
        go_enter Tryz.func58, Tryz.ntmps58
        go_wp2_with fail
        refine HW.out.mono ?_
        rintro e w1 ⟨rfl, rfl⟩
        go_wp2_with fail
        refine HI.out.mono ?_
        rintro e w1 ⟨rfl, rfl⟩
        go_wp2
        go_ret
        exact ⟨ret_str HX.out.symm, Below.refl _ _⟩
      · have hx : setTx n s = joinB comma ((elL s).map itoaB) := by unfold setTx; rw [if_pos hok, if_neg hz]
        have HX := Lib.hid hx
        have hz2 : (s == 0) = false := by simpa using hz
        have HE := Lib.hid (elementsOf_i s w hs0 hs64)
        clear hwi hx h1 h2 his hok hz
        go_enter Tryz.func58, Tryz.ntmps58
        go_wp2_with fail
        refine HW.out.mono ?_
        rintro e w1 ⟨rfl, rfl⟩
        go_wp2_with fail
        refine HI.out.mono ?_
        rintro e w1 ⟨rfl, rfl⟩
        go_wp2_with fail
        refine HE.out.mono ?_
        rintro e w1 ⟨ad, i, cp, rfl, o1, b1⟩
        have HJ := Lib.hid (joinIntsI_any (elL s) _ w1 o1.ints (by have := elL_len6 s; omega) (hp.keep b1))
        go_wp2_with fail
        refine HJ.out.mono ?_
        rintro e w2 ⟨rfl, b2⟩
        go_wp2
        go_ret
        exact ⟨ret_str HX.out.symm, b1.after b2 b1.size⟩
set_option maxHeartbeats 1000000 in
set_option maxRecDepth 100000 in
theorem fmtSetS_any (n s : Int) (w : World) :
    Calls Tryz.prog 49 #[.int .i64 n, .int .i64 s] w fun e w' => e = .returned (.string (setTx n s)) ∧ Below w.heap.size w w' := by
  have hwi := l1In_any n 0 6 w
  cases h1 : inB n 0 6 with
  | false =>
    have hx : setTx n s = ByteArray.empty := by unfold setTx setOk; rw [h1]; rfl
    have HX := Lib.hid hx
    rw [h1] at hwi
    have HW := Lib.hid hwi
    clear hwi hx h1
    go_enter Tryz.func49, Tryz.ntmps49
    go_wp2_with fail
    refine HW.out.mono ?_
    rintro e w1 ⟨rfl, rfl⟩
    go_wp2
    go_ret
    exact ⟨ret_str HX.out.symm, Below.refl _ _⟩
  | true =>
    have hb := inB_true.1 h1
    have hfu := l2Full_i n w hb.1 (by omega)
    have his := l1In_any s 0 (2 ^ n.toNat - 1) w
    rw [isSet_inB] at his
    obtain ⟨f, hf⟩ : ∃ f : Int, f = 2 ^ n.toNat - 1 := ⟨_, rfl⟩
    rw [← hf] at hfu his
    rw [h1] at hwi
    have HW := Lib.hid hwi
    have HFU := Lib.hid hfu
    clear hf hfu
    cases h2 : isSet n.toNat s with
    | false =>
      have hx : setTx n s = ByteArray.empty := by unfold setTx setOk; rw [h1, h2]; rfl
      rw [h2] at his
      have HX := Lib.hid hx
      have HI := Lib.hid his
      clear hwi hx h1 h2 his
      go_enter Tryz.func49, Tryz.ntmps49
      go_wp2_with fail
      refine HW.out.mono ?_
      rintro e w1 ⟨rfl, rfl⟩
      go_wp2_with fail
      refine HFU.out.mono ?_
      rintro e w1 ⟨rfl, rfl⟩
      go_wp2_with fail
      refine HI.out.mono ?_
      rintro e w1 ⟨rfl, rfl⟩
      go_wp2
      go_ret
      exact ⟨ret_str HX.out.symm, Below.refl _ _⟩
    | true =>
      have hok : setOk n s = true := by unfold setOk; rw [h1, h2]; rfl
      obtain ⟨_, _, hs0, hs64⟩ := setOk_true hok
      rw [h2] at his
      have HI := Lib.hid his
      have HOK := Lib.hid hok
      have HE := Lib.hid (l2List_i s w hs0 hs64)
      obtain ⟨l, hl⟩ : ∃ l, l = elL s := ⟨_, rfl⟩
      have hl6 : l.length ≤ 1000 := by rw [hl]; have := elL_len6 s; omega
      have hln : (l = []) = (s = 0) := by rw [hl]; exact propext (elL_nil' s hs0 hs64)
      have hlx : setTx n s = if l = [] then dashB else joinB comma (l.map itoaB) := by
        unfold setTx; rw [if_pos hok, hl]; simp only [elL_nil' s hs0 hs64]
      have HLX := Lib.hid hlx
      rw [← hl] at HE
      clear hwi h1 h2 his hok hln hlx hl
      go_enter Tryz.func49, Tryz.ntmps49
      go_wp2_with fail
      refine HW.out.mono ?_
      rintro e w1 ⟨rfl, rfl⟩
      go_wp2_with fail
      refine HFU.out.mono ?_
      rintro e w1 ⟨rfl, rfl⟩
      go_wp2_with fail
      refine HI.out.mono ?_
      rintro e w1 ⟨rfl, rfl⟩
      go_wp2_with fail
      refine HE.out.mono ?_
      rintro e w1 ⟨ad, i, cp, rfl, o1, b1⟩
      have hv := o1.ints
      have hin := hv.inR
      have hi : i = l.length := hv.capLe.1
      subst hi
      obtain ⟨a, b, off, c, hve, hlen, hix, hc, hb⟩ := hv.view Tryz.prog 22 3 Tryz.underlying22 intElem
      injection hve with e1 _ e3
      subst e1 e3
      have HC := Lib.hid hc
      have HIN := Lib.hid hin
      have HIX := Lib.hid hix
      have HB1 := Lib.hid b1
      clear hc hin hix hlen hv o1 b1
      go_wp2_with fail
      go_loopw [5, 7] (fun sv iv wr => ∃ (k : Nat) (S : ByteArray), k ≤ l.length ∧ iv = .int .i64 k ∧ sv = .string S ∧ S = joinB comma ((l.take k).map itoaB) ∧ Below w1.heap.size w1 wr) (fun _ iv _ => l.length - (intOf iv).toNat)
      case atStart => exact ⟨0, _, Nat.zero_le _, rfl, rfl, rfl, Below.refl _ _⟩
      case round =>
        obtain ⟨k, S, hk, rfl, rfl, hS, B⟩ := hrel
        obtain ⟨wz, rfl⟩ : ∃ q : World, q = wr := ⟨_, rfl⟩
        have hSs : S.size ≤ 22000 := by rw [hS]; exact commas_take l k HIN.out hl6 hk
        by_cases hlt : k < l.length
        · have hlt2 : (k : Int) < (l.length : Int) := by omega
          have hck := cells_below HC.out hb B (Nat.le_refl _) k hlt
          have hik := fun W => HIX.out W k hlt
          have hnx := commas_next l k hlt
          have hxr := HIN.out l[k] (List.getElem_mem hlt)
          rw [← hS] at hnx
          have hS0 : k = 0 → S = ByteArray.empty := fun h => by rw [hS, h]; rfl
          obtain ⟨x, hx⟩ : ∃ x, x = l[k] := ⟨_, rfl⟩
          rw [← hx] at hck hnx hxr
          have hT := itoaB_size x hxr
          have hF := fmtS_any x hxr wz
          obtain ⟨T, hTe⟩ : ∃ T, T = itoaB x := ⟨_, rfl⟩
          rw [← hTe] at hnx hT hF
          have HF := Lib.hid hF
          have HNX := Lib.hid hnx
          clear hF hnx hx hTe hS
          by_cases hk0 : k = 0
          · have hSe := hS0 hk0
            subst hSe
            have HK0 := Lib.hid hk0
            have hgt : ¬ 0 < (k : Int) := by omega
            have hgt2 : ¬ 0 < k := by omega
            clear hS0 hk0
            go_wp2_with fail
            refine HF.out.mono ?_
            rintro e w3 ⟨rfl, b3⟩
            have B := B.after b3 B.size
            go_wp2
            go_roundw
            case rel => exact ⟨k + 1, _, by omega, by go_num, rfl, by rw [HNX.out, if_pos HK0.out], B⟩
            case measure => simp [intOf]; omega
          · have hgt : 0 < (k : Int) := by omega
            have hgt2 : 0 < k := by omega
            have hS2 : (S ++ comma).size ≤ 22001 := by rw [ByteArray.size_append]; show S.size + 1 ≤ 22001; omega
            clear hS0
            go_wp2_with fail
            refine HF.out.mono ?_
            rintro e w3 ⟨rfl, b3⟩
            have B := B.after b3 B.size
            go_wp2
            go_roundw
            case rel => exact ⟨k + 1, _, by omega, by go_num, rfl, by rw [HNX.out, if_neg hk0]; rfl, B⟩
            case measure => simp [intOf]; omega
        · have hlt2 : ¬ (k : Int) < (l.length : Int) := by omega
          have hSl : S = joinB comma (l.map itoaB) := by rw [hS, show k = l.length by omega, List.take_length]
          have hem := str_emp S
          have he2 : decide (S = ByteArray.empty) = decide (l = []) := by rw [hSl]; simp only [commas_emp]
          rw [he2] at hem
          have BB := HB1.out.after B HB1.out.size
          cases h0 : decide (l = []) with
          | true =>
            have hl0 : setTx n s = dashB := by rw [HLX.out, if_pos (of_decide_eq_true h0)]
            rw [h0] at hem
            have HL0 := Lib.hid hl0
            clear h0 he2 hSl hl0 hS
            go_wp2
            go_ret
            exact ⟨ret_str HL0.out.symm, BB⟩
          | false =>
            have hl0 : setTx n s = S := by rw [HLX.out, if_neg (of_decide_eq_false h0)]; exact hSl.symm
            rw [h0] at hem
            have HL0 := Lib.hid hl0
            clear h0 he2 hSl hl0 hS
            go_wp2
            go_ret
            exact ⟨ret_str HL0.out.symm, BB⟩
end Go.Proofs.YtpaoiiiceekkkaaGreatDoor
end
