/- Sets as texts: both programs. Families as texts: both programs. Representatives and Hall's condition: what is computed. Representatives and Hall's condition: the first program. -/
import Derived.Test.YtipejodijbjpcaaGreatDoorQ14
import Derived.Shelf.Abstract
section
namespace Go.Proofs.YtipejodijbjpcaaGreatDoor
open Go.RowKit Go.G5

def dashB : ByteArray := ⟨#[45]⟩
def setOk (n s : Int) : Bool := inB n 0 6 && isSet n.toNat s
def setTx (n s : Int) : ByteArray := if setOk n s = true then (if s = 0 then dashB else joinB comma ((elL s).map itoaB)) else ByteArray.empty
theorem setOk_true {n s : Int} (h : setOk n s = true) : 0 ≤ n ∧ n ≤ 6 ∧ 0 ≤ s ∧ s < 64 := by
  unfold setOk at h
  rw [Bool.and_eq_true] at h
  have h1 := inB_true.1 h.1
  have h2 := isSet_true.1 h.2
  have := pow_le64 h1.1 h1.2
  exact ⟨h1.1, h1.2, h2.1, by omega⟩
theorem elL_nil : ∀ s : Nat, s < 64 → (famOf s 6 = [] ↔ s = 0) := by decide +kernel
theorem elL_nil' (s : Int) (h0 : 0 ≤ s) (h : s < 64) : elL s = [] ↔ s = 0 := by
  unfold elL
  rw [elL_nil s.toNat (by omega)]
  omega
theorem elL_inR (s : Int) : ∀ x ∈ elL s, InR x := fun x hx => by
  have := elL_bd6 s x hx
  exact ⟨by omega, by omega⟩
theorem setTx_size (n s : Int) : (setTx n s).size ≤ 132 := by
  unfold setTx
  split
  · split
    · show 1 ≤ 132; omega
    · have h1 := commas_size (elL s) (elL_inR s)
      have h2 := elL_len6 s
      omega
  · simp
set_option maxHeartbeats 1000000 in
set_option maxRecDepth 100000 in
theorem fmtSetI_any (n s : Int) (w : World) (hp : Pow w) :
    Calls Tryz.prog 98 #[.int .i64 n, .int .i64 s] w fun e w' => e = .returned (.string (setTx n s)) ∧ Below w.heap.size w w' := by
  have hwi := within_any n 0 6 w
  cases h1 : inB n 0 6 with
  | false =>
    have hx : setTx n s = ByteArray.empty := by unfold setTx setOk; rw [h1]; rfl
    have HX := Lib.hid hx
    rw [h1] at hwi
    have HW := Lib.hid hwi
    clear hwi hx h1
    go_enter Tryz.func98, Tryz.ntmps98
    go_wp2_with fail
    refine HW.out.mono ?_
    rintro e w1 ⟨rfl, rfl⟩
    go_wp2
    go_ret
    exact ⟨ret_str HX.out.symm, Below.refl _ _⟩
  | true =>
    have hb := inB_true.1 h1
    have his := isSetOf_i n s w hb.1 (by omega)
    rw [h1] at hwi
    have HW := Lib.hid hwi
    cases h2 : isSet n.toNat s with
    | false =>
      have hx : setTx n s = ByteArray.empty := by unfold setTx setOk; rw [h1, h2]; rfl
      rw [h2] at his
      have HX := Lib.hid hx
      have HI := Lib.hid his
      clear hwi hx h1 h2 his
      go_enter Tryz.func98, Tryz.ntmps98
      go_wp2_with fail
      refine HW.out.mono ?_
      rintro e w1 ⟨rfl, rfl⟩
      go_wp2_with fail
      refine HI.out.mono ?_
      rintro e w1 ⟨rfl, rfl⟩
      go_wp2
      go_ret
      exact ⟨ret_str HX.out.symm, Below.refl _ _⟩
    | true =>
      have hok : setOk n s = true := by unfold setOk; rw [h1, h2]; rfl
      obtain ⟨_, _, hs0, hs64⟩ := setOk_true hok
      rw [h2] at his
      have HI := Lib.hid his
      by_cases hz : s = 0
      · have hx : setTx n s = dashB := by unfold setTx; rw [if_pos hok, if_pos hz]
        have HX := Lib.hid hx
        have hz2 : (s == 0) = true := by simpa using hz
        clear hwi hx h1 h2 his hok hz
        go_enter Tryz.func98, Tryz.ntmps98
        go_wp2_with fail
        refine HW.out.mono ?_
        rintro e w1 ⟨rfl, rfl⟩
        go_wp2_with fail
        refine HI.out.mono ?_
        rintro e w1 ⟨rfl, rfl⟩
        go_wp2
        go_ret
        exact ⟨ret_str HX.out.symm, Below.refl _ _⟩
      · have hx : setTx n s = joinB comma ((elL s).map itoaB) := by unfold setTx; rw [if_pos hok, if_neg hz]
        have HX := Lib.hid hx
        have hz2 : (s == 0) = false := by simpa using hz
        have HE := Lib.hid (elementsOf_i s w hs0 hs64)
        clear hwi hx h1 h2 his hok hz
        go_enter Tryz.func98, Tryz.ntmps98
        go_wp2_with fail
        refine HW.out.mono ?_
        rintro e w1 ⟨rfl, rfl⟩
        go_wp2_with fail
        refine HI.out.mono ?_
        rintro e w1 ⟨rfl, rfl⟩
        go_wp2_with fail
        refine HE.out.mono ?_
        rintro e w1 ⟨ad, i, cp, rfl, o1, b1⟩
        have HJ := Lib.hid (joinIntsI_any (elL s) _ w1 o1.ints (by have := elL_len6 s; omega) (hp.keep b1))
        go_wp2_with fail
        refine HJ.out.mono ?_
        rintro e w2 ⟨rfl, b2⟩
        go_wp2
        go_ret
        exact ⟨ret_str HX.out.symm, b1.after b2 b1.size⟩
set_option maxHeartbeats 1000000 in
set_option maxRecDepth 100000 in
theorem fmtSetS_any (n s : Int) (w : World) :
    Calls Tryz.prog 81 #[.int .i64 n, .int .i64 s] w fun e w' => e = .returned (.string (setTx n s)) ∧ Below w.heap.size w w' := by
  have hwi := l1In_any n 0 6 w
  cases h1 : inB n 0 6 with
  | false =>
    have hx : setTx n s = ByteArray.empty := by unfold setTx setOk; rw [h1]; rfl
    have HX := Lib.hid hx
    rw [h1] at hwi
    have HW := Lib.hid hwi
    clear hwi hx h1
    go_enter Tryz.func81, Tryz.ntmps81
    go_wp2_with fail
    refine HW.out.mono ?_
    rintro e w1 ⟨rfl, rfl⟩
    go_wp2
    go_ret
    exact ⟨ret_str HX.out.symm, Below.refl _ _⟩
  | true =>
    have hb := inB_true.1 h1
    have hfu := l2Full_i n w hb.1 (by omega)
    have his := l1In_any s 0 (2 ^ n.toNat - 1) w
    rw [isSet_inB] at his
    obtain ⟨f, hf⟩ : ∃ f : Int, f = 2 ^ n.toNat - 1 := ⟨_, rfl⟩
    rw [← hf] at hfu his
    rw [h1] at hwi
    have HW := Lib.hid hwi
    have HFU := Lib.hid hfu
    clear hf hfu
    cases h2 : isSet n.toNat s with
    | false =>
      have hx : setTx n s = ByteArray.empty := by unfold setTx setOk; rw [h1, h2]; rfl
      rw [h2] at his
      have HX := Lib.hid hx
      have HI := Lib.hid his
      clear hwi hx h1 h2 his
      go_enter Tryz.func81, Tryz.ntmps81
      go_wp2_with fail
      refine HW.out.mono ?_
      rintro e w1 ⟨rfl, rfl⟩
      go_wp2_with fail
      refine HFU.out.mono ?_
      rintro e w1 ⟨rfl, rfl⟩
      go_wp2_with fail
      refine HI.out.mono ?_
      rintro e w1 ⟨rfl, rfl⟩
      go_wp2
      go_ret
      exact ⟨ret_str HX.out.symm, Below.refl _ _⟩
    | true =>
      have hok : setOk n s = true := by unfold setOk; rw [h1, h2]; rfl
      obtain ⟨_, _, hs0, hs64⟩ := setOk_true hok
      rw [h2] at his
      have HI := Lib.hid his
      have HOK := Lib.hid hok
      have HE := Lib.hid (l2List_i s w hs0 hs64)
      obtain ⟨l, hl⟩ : ∃ l, l = elL s := ⟨_, rfl⟩
      have hl6 : l.length ≤ 1000 := by rw [hl]; have := elL_len6 s; omega
      have hln : (l = []) = (s = 0) := by rw [hl]; exact propext (elL_nil' s hs0 hs64)
      have hlx : setTx n s = if l = [] then dashB else joinB comma (l.map itoaB) := by
        unfold setTx; rw [if_pos hok, hl]; simp only [elL_nil' s hs0 hs64]
      have HLX := Lib.hid hlx
      rw [← hl] at HE
      clear hwi h1 h2 his hok hln hlx hl
      go_enter Tryz.func81, Tryz.ntmps81
      go_wp2_with fail
      refine HW.out.mono ?_
      rintro e w1 ⟨rfl, rfl⟩
      go_wp2_with fail
      refine HFU.out.mono ?_
      rintro e w1 ⟨rfl, rfl⟩
      go_wp2_with fail
      refine HI.out.mono ?_
      rintro e w1 ⟨rfl, rfl⟩
      go_wp2_with fail
      refine HE.out.mono ?_
      rintro e w1 ⟨ad, i, cp, rfl, o1, b1⟩
      have hv := o1.ints
      have hin := hv.inR
      have hi : i = l.length := hv.capLe.1
      subst hi
      obtain ⟨a, b, off, c, hve, hlen, hix, hc, hb⟩ := hv.view Tryz.prog 22 3 Tryz.underlying22 intElem
      injection hve with e1 _ e3
      subst e1 e3
      have HC := Lib.hid hc
      have HIN := Lib.hid hin
      have HIX := Lib.hid hix
      have HB1 := Lib.hid b1
      clear hc hin hix hlen hv o1 b1
      go_wp2_with fail
      go_loopw [5, 7] (fun sv iv wr => ∃ (k : Nat) (S : ByteArray), k ≤ l.length ∧ iv = .int .i64 k ∧ sv = .string S ∧ S = joinB comma ((l.take k).map itoaB) ∧ Below w1.heap.size w1 wr) (fun _ iv _ => l.length - (intOf iv).toNat)
      case atStart => exact ⟨0, _, Nat.zero_le _, rfl, rfl, rfl, Below.refl _ _⟩
      case round =>
        obtain ⟨k, S, hk, rfl, rfl, hS, B⟩ := hrel
        obtain ⟨wz, rfl⟩ : ∃ q : World, q = wr := ⟨_, rfl⟩
        have hSs : S.size ≤ 22000 := by rw [hS]; exact commas_take l k HIN.out hl6 hk
        by_cases hlt : k < l.length
        · have hlt2 : (k : Int) < (l.length : Int) := by omega
          have hck := cells_below HC.out hb B (Nat.le_refl _) k hlt
          have hik := fun W => HIX.out W k hlt
          have hnx := commas_next l k hlt
          have hxr := HIN.out l[k] (List.getElem_mem hlt)
          rw [← hS] at hnx
          have hS0 : k = 0 → S = ByteArray.empty := fun h => by rw [hS, h]; rfl
          obtain ⟨x, hx⟩ : ∃ x, x = l[k] := ⟨_, rfl⟩
          rw [← hx] at hck hnx hxr
          have hT := itoaB_size x hxr
          have hF := fmtS_any x hxr wz
          obtain ⟨T, hTe⟩ : ∃ T, T = itoaB x := ⟨_, rfl⟩
          rw [← hTe] at hnx hT hF
          have HF := Lib.hid hF
          have HNX := Lib.hid hnx
          clear hF hnx hx hTe hS
          by_cases hk0 : k = 0
          · have hSe := hS0 hk0
            subst hSe
            have HK0 := Lib.hid hk0
            have hgt : ¬ 0 < (k : Int) := by omega
            have hgt2 : ¬ 0 < k := by omega
            clear hS0 hk0
            go_wp2_with fail
            refine HF.out.mono ?_
            rintro e w3 ⟨rfl, b3⟩
            have B := B.after b3 B.size
            go_wp2
            go_roundw
            case rel => exact ⟨k + 1, _, by omega, by go_num, rfl, by rw [HNX.out, if_pos HK0.out], B⟩
            case measure => simp [intOf]; omega
          · have hgt : 0 < (k : Int) := by omega
            have hgt2 : 0 < k := by omega
            have hS2 : (S ++ comma).size ≤ 22001 := by rw [ByteArray.size_append]; show S.size + 1 ≤ 22001; omega
            clear hS0
            go_wp2_with fail
            refine HF.out.mono ?_
            rintro e w3 ⟨rfl, b3⟩
            have B := B.after b3 B.size
            go_wp2
            go_roundw
            case rel => exact ⟨k + 1, _, by omega, by go_num, rfl, by rw [HNX.out, if_neg hk0]; rfl, B⟩
            case measure => simp [intOf]; omega
        · have hlt2 : ¬ (k : Int) < (l.length : Int) := by omega
          have hSl : S = joinB comma (l.map itoaB) := by rw [hS, show k = l.length by omega, List.take_length]
          have hem := str_emp S
          have he2 : decide (S = ByteArray.empty) = decide (l = []) := by rw [hSl]; simp only [commas_emp]
          rw [he2] at hem
          have BB := HB1.out.after B HB1.out.size
          cases h0 : decide (l = []) with
          | true =>
            have hl0 : setTx n s = dashB := by rw [HLX.out, if_pos (of_decide_eq_true h0)]
            rw [h0] at hem
            have HL0 := Lib.hid hl0
            clear h0 he2 hSl hl0 hS
            go_wp2
            go_ret
            exact ⟨ret_str HL0.out.symm, BB⟩
          | false =>
            have hl0 : setTx n s = S := by rw [HLX.out, if_neg (of_decide_eq_false h0)]; exact hSl.symm
            rw [h0] at hem
            have HL0 := Lib.hid hl0
            clear h0 he2 hSl hl0 hS
            go_wp2
            go_ret
            exact ⟨ret_str HL0.out.symm, BB⟩
end Go.Proofs.YtipejodijbjpcaaGreatDoor
end
section
namespace Go.Proofs.YtipejodijbjpcaaGreatDoor
open Go.RowKit Go.G5

def bar : ByteArray := ⟨#[124]⟩
def famTx (g : Int) (l : List Int) : ByteArray := if isFamB g l = true then (if l = [] then noneB else joinB bar (l.map (setTx g))) else ByteArray.empty
theorem asc_ge (l : List Int) (hp : l.Pairwise (· < ·)) (h0 : ∀ x ∈ l, 0 ≤ x) : ∀ k, (h : k < l.length) → (k : Int) ≤ l[k] := by
  intro k
  induction k with
  | zero => intro h; have := h0 _ (List.getElem_mem h); omega
  | succ k ih =>
    intro h
    have h1 := ih (by omega)
    have h2 := List.pairwise_iff_getElem.1 hp k (k + 1) (by omega) h (by omega)
    omega
theorem fam_len {g : Int} {l : List Int} (h : isFamB g l = true) : l.length ≤ 64 := by
  obtain ⟨h0, h6, hb, hp⟩ := famOk h
  have h64 := pow_le64 h0 h6
  by_cases hl : l.length = 0
  · omega
  · have h1 := asc_ge l hp (fun x hx => (hb x hx).1) (l.length - 1) (by omega)
    have h2 := (hb _ (List.getElem_mem (show l.length - 1 < l.length by omega))).2
    omega
theorem bars_size (g : Int) (l : List Int) : (joinB bar (l.map (setTx g))).size ≤ l.length * 133 := by
  have := joinB_size bar 132 (l.map (setTx g)) (fun x hx => by
    obtain ⟨y, hy, rfl⟩ := List.mem_map.1 hx
    exact setTx_size g y)
  rw [List.length_map] at this
  exact this
set_option maxHeartbeats 1000000 in
set_option maxRecDepth 100000 in
theorem fmtFamI_any (g : Int) (l : List Int) (v : Value) (w : World) (hv : Ints w v l) (hp : Pow w) :
    Calls Tryz.prog 31 #[.agg #[.int .i64 g, v]] w fun e w' => e = .returned (.string (famTx g l)) ∧ Below w.heap.size w w' := by
  have hv0 := hv
  obtain ⟨a, b, off, c, rfl, hlen, hix, hc, hb⟩ := hv.view Tryz.prog 22 3 Tryz.underlying22 intElem
  have K0 := Blk.new w 27 #[.int .i64 g, .slice a l.length c]
  have HC := Lib.hid hc
  have HIX := Lib.hid hix
  clear hc hix hlen
  go_enter Tryz.func31, Tryz.ntmps31
  go_wp2_with fail
  refine (isFamI_any g l _ _ (hv0.alloc _)).mono ?_
  rintro e w1 ⟨rfl, hb1⟩
  have K1 := K0.keep hb1
  have B1 : Below w.heap.size w w1 := (bl1 _ _).after hb1 (by simp)
  have G1 := K1.cell
  clear K0 hb1
  cases hf : isFamB g l with
  | false =>
    have hx : famTx g l = ByteArray.empty := by unfold famTx; rw [hf]; rfl
    have HX := Lib.hid hx
    clear hx hf
    go_wp2
    go_ret
    exact ⟨ret_str HX.out.symm, B1⟩
  | true =>
    have h64 := fam_len hf
    by_cases hl0 : l.length = 0
    · have hx : famTx g l = noneB := by unfold famTx; rw [if_pos hf, if_pos (List.eq_nil_of_length_eq_zero hl0)]
      have HX := Lib.hid hx
      have hz : ((l.length : Int) == 0) = true := by simp [hl0]
      have hz2 : (l.length == 0) = true := by simp [hl0]
      clear hx hf hl0 hz
      go_wp2
      go_ret
      exact ⟨ret_str HX.out.symm, B1⟩
    · have hx : famTx g l = joinB bar (l.map (setTx g)) := by unfold famTx; rw [if_pos hf, if_neg (fun h => hl0 (by rw [h]; rfl))]
      have HX := Lib.hid hx
      have hz : (l.length == 0) = false := by simpa using hl0
      have hzz : ((l.length : Int) == 0) = false := by simp; intro h; exact hl0 (by rw [h]; rfl)
      clear hx hf hl0
      go_wp2_with fail
      go_loopw [3, 16] (fun ov iv wr => ∃ (k : Nat) (p : Option Addr) (n cp : Nat), k ≤ l.length ∧ iv = .int .i64 k ∧ ov = .slice p n cp ∧ OwnS 9 w1.heap.size wr (.slice p n cp) ((l.take k).map (setTx g)) ∧ Below w1.heap.size w1 wr) (fun _ iv _ => l.length - (intOf iv).toNat)
      case atStart => exact ⟨0, _, _, _, Nat.zero_le _, rfl, rfl, OwnS.nil _ _ _, Below.refl _ _⟩
      case round =>
        obtain ⟨k, p, n, cp, hk, rfl, rfl, ho, B⟩ := hrel
        obtain ⟨wz, rfl⟩ : ∃ q : World, q = wr := ⟨_, rfl⟩
        have hpz := hp.keep (B1.after B B1.size)
        have Kz := K1.keep B
        have Gz := Kz.cell
        clear G1 hz hzz
        by_cases hlt : k < l.length
        · have hlt2 : (k : Int) < (l.length : Int) := by omega
          have hck := cells_below HC.out hb (B1.after B B1.size) (Nat.le_refl _) k hlt
          have hik := fun W => HIX.out W k hlt
          have hst : (l.take (k + 1)).map (setTx g) = (l.take k).map (setTx g) ++ [setTx g l[k]] := by
            rw [List.take_succ_eq_append_getElem hlt, List.map_append]; rfl
          have hkl : ((l.take k).map (setTx g)).length = k := by simp; omega
          obtain ⟨x, hx⟩ : ∃ x, x = l[k] := ⟨_, rfl⟩
          rw [← hx] at hck hst
          have HST := Lib.hid hst
          have HKL := Lib.hid hkl
          clear hx hst hkl
          have hF := Lib.hid (fmtSetI_any g x wz hpz)
          go_wp2_with fail
          refine hF.out.mono ?_
          rintro e w3 ⟨rfl, b3⟩
          have ho := ho.keep b3
          have B := B.after b3 B.size
          have zB := B.size
          clear b3 hF Gz
          go_wp2_with (at_builtin; refine wpList_appendT rfl _ _ _ rfl 9 Tryz.underlying94 strElem w1.heap.size (.slice p n cp) ((l.take k).map (setTx g)) [setTx g x] w3.heap.size 1 1 rfl rfl rfl (fun j y hy => by match j, hy with | 0, hy => (cases hy; exact cell_new _ _ _ _ _ rfl)) (ho.alloc _) (by rw [HKL.out]; simp; omega) (by simp; omega) ?_; intro v7 w7 o7 g7; obtain ⟨p7, i7, q7, rfl⟩ := o7.shape3)
          have rr := ho.lt
          have B7 := (B.alloc zB (.cells #[.string (setTx g x)] 9)).grown g7 (by simp; omega) (fun q hq => (rr _ hq).1)
          go_roundw
          case rel => exact ⟨k + 1, p7, i7, q7, by omega, by go_num, rfl, by rw [HST.out]; exact o7, B7⟩
          case measure => simp [intOf]; omega
        · have hkl : k = l.length := by omega
          have ho2 : OwnS 9 w1.heap.size wz (.slice p n cp) (l.map (setTx g)) := by
            rw [hkl, List.take_length] at ho; exact ho
          have hlt2 : ¬ (k : Int) < (l.length : Int) := by omega
          have hbs := bars_size g l
          have HJ := Lib.hid (join_own w1.heap.size wz _ (l.map (setTx g)) bar ho2 (by omega) (by rw [List.length_map]; omega))
          have BB := B1.after B B1.size
          clear hkl ho ho2 hpz hbs
          go_wp2_with fail
          refine HJ.out.mono ?_
          rintro e w3 ⟨rfl, b3⟩
          go_wp2
          go_ret
          exact ⟨ret_str HX.out.symm, BB.after b3 BB.size⟩
end Go.Proofs.YtipejodijbjpcaaGreatDoor
end
section
namespace Go.Proofs.YtipejodijbjpcaaGreatDoor
open Go.RowKit Go.G5

def fewB (g : Int) (l : List Int) : Bool := decide (l.length ≤ 6) && areSetsB g l
/-- the first list of different elements that goes on from list -/
def repG (l : List Int) : Nat → Int → List Int → Option (List Int)
  | 0, _, list => some list
  | n + 1, used, list => (elL (idif (l.getD list.length 0) used)).findSome? fun e => repG l n (ior used (2 ^ e.toNat)) (list ++ [e])
def repOne (l : List Int) (n : Nat) (used : Int) (list : List Int) (e : Int) : Option (List Int) := repG l n (ior used (2 ^ e.toNat)) (list ++ [e])
theorem repG_zero (l : List Int) (used : Int) (list : List Int) : repG l 0 used list = some list := rfl
theorem repG_succ (l : List Int) (n : Nat) (used : Int) (list : List Int) : repG l (n + 1) used list = (elL (idif (l.getD list.length 0) used)).findSome? (repOne l n used list) := rfl
def repR (g : Int) (l : List Int) : Option (List Int) := if fewB g l then repG l l.length 0 [] else none
def repB (g : Int) (l : List Int) : Bool := (repR g l).isSome
def repL (g : Int) (l : List Int) : List Int := (repR g l).getD []
theorem findSome_take {α β : Type} (F : α → Option β) (l : List α) (k : Nat) (h : k < l.length) : (l.take (k + 1)).findSome? F = ((l.take k).findSome? F).or (F l[k]) := by
  rw [List.take_succ_eq_append_getElem h, List.findSome?_append]
  cases hF : F l[k] <;> simp [hF]
theorem findSome_hit {α β : Type} (F : α → Option β) (l : List α) (k : Nat) (h : k < l.length) (x : β) (hn : (l.take k).findSome? F = none) (hx : F l[k] = some x) : l.findSome? F = some x := by
  have e : l = l.take (k + 1) ++ l.drop (k + 1) := (List.take_append_drop _ _).symm
  rw [e, List.findSome?_append, findSome_take F l k h, hn, hx]; rfl
theorem repG_len (l : List Int) : ∀ (n : Nat) (used : Int) (list x : List Int), repG l n used list = some x → x.length = list.length + n := by
  intro n
  induction n with
  | zero => intro used list x h; rw [repG_zero] at h; cases h; rfl
  | succ n ih =>
    intro used list x h
    rw [repG_succ] at h
    obtain ⟨e, _, he⟩ := List.exists_of_findSome?_eq_some h
    have := ih _ _ _ he
    rw [List.length_append, List.length_singleton] at this
    omega
theorem pow2_bd' (e : Int) (h : 0 ≤ e ∧ e < 6) : 0 < (2 : Int) ^ e.toNat ∧ (2 : Int) ^ e.toNat < 64 := by
  rcases (show e = 0 ∨ e = 1 ∨ e = 2 ∨ e = 3 ∨ e = 4 ∨ e = 5 by omega) with rfl | rfl | rfl | rfl | rfl | rfl <;> decide
theorem repL_none {g : Int} {l : List Int} (h : repB g l = false) : repL g l = [] := by
  unfold repB at h
  unfold repL
  cases hr : repR g l with
  | none => rfl
  | some x => rw [hr] at h; simp at h

/-- the elements of the sets that code chooses among the first k -/
def unionTo (l : List Int) (code : Nat) : Nat → Int
  | 0 => 0
  | k + 1 => if nbit code k then ior (unionTo l code k) (l.getD k 0) else unionTo l code k
def lackB (l : List Int) (code : Nat) : Bool := decide (ipop (unionTo l code l.length) < (pop code : Int))
def firstFrom (P : Nat → Bool) : Nat → Nat → Option Nat
  | 0, _ => none
  | n + 1, s => if P s then some s else firstFrom P n (s + 1)
def vioR (g : Int) (l : List Int) : Option Nat := if fewB g l then firstFrom (lackB l) (2 ^ l.length) 0 else none
def vioB (g : Int) (l : List Int) : Bool := (vioR g l).isSome
def vioL (g : Int) (l : List Int) : List Int := match vioR g l with | none => [] | some c => elL (c : Int)
theorem unionTo_bd (l : List Int) (code : Nat) (h : ∀ x ∈ l, 0 ≤ x ∧ x < 64) : ∀ k, k ≤ l.length → 0 ≤ unionTo l code k ∧ unionTo l code k < 64 := by
  intro k
  induction k with
  | zero => intro _; simp [unionTo]
  | succ k ih =>
    intro hk
    have hi := ih (by omega)
    have hx := h _ (List.getElem_mem (show k < l.length by omega))
    rw [unionTo, getD_at l k (by omega)]
    split
    · exact ior_bd _ _ 6 hi.1 hx.1 hi.2 hx.2
    · exact hi
theorem firstFrom_lt (P : Nat → Bool) : ∀ (n s c : Nat), firstFrom P n s = some c → c < s + n := by
  intro n
  induction n with
  | zero => intro s c h; cases h
  | succ n ih =>
    intro s c h
    rw [firstFrom] at h
    split at h
    · cases h; omega
    · have := ih _ _ h; omega
theorem few_ok {g : Int} {l : List Int} (h : fewB g l = true) : l.length ≤ 6 ∧ 0 ≤ g ∧ g ≤ 6 ∧ (∀ s ∈ l, 0 ≤ s ∧ s < 2 ^ g.toNat) ∧ (∀ s ∈ l, 0 ≤ s ∧ s < 64) := by
  unfold fewB areSetsB at h
  simp only [Bool.and_eq_true, decide_eq_true_eq, List.all_eq_true] at h
  have hg := inB_true.1 h.2.1
  have hp := pow_le64 hg.1 hg.2
  have hm : ∀ s ∈ l, 0 ≤ s ∧ s < 2 ^ g.toNat := fun s hs => isSet_true.1 (h.2.2 s hs)
  exact ⟨h.1, hg.1, hg.2, hm, fun s hs => by have := hm s hs; omega⟩
end Go.Proofs.YtipejodijbjpcaaGreatDoor
end
section
namespace Go.Proofs.YtipejodijbjpcaaGreatDoor
open Go.RowKit Go.G5

theorem areFew_any (g : Int) (l : List Int) (v : Value) (w : World) (hv : Ints w v l) :
    Calls Tryz.prog 266 #[.int .i64 g, v] w fun e w' => e = .returned (.bool (fewB g l)) ∧ w = w' := by
  obtain ⟨a, c, rfl⟩ := hv.shape
  by_cases h : l.length ≤ 6
  · have hx : fewB g l = areSetsB g l := by unfold fewB; rw [decide_eq_true h]; rfl
    have hi : (l.length : Int) ≤ 6 := by omega
    have HX := Lib.hid hx
    clear hx
    go_enter Tryz.func266, Tryz.ntmps266
    go_wp2_with (go_at_call 224; refine (areSets_any g l _ _ hv).mono ?_; rintro e w' ⟨rfl, rfl⟩)
    go_ret
    exact ⟨by rw [HX.out]; rfl, rfl⟩
  · have hx : fewB g l = false := by unfold fewB; rw [decide_eq_false h]; rfl
    have hi : ¬ (l.length : Int) ≤ 6 := by omega
    have HX := Lib.hid hx
    clear hx
    go_enter Tryz.func266, Tryz.ntmps266
    go_wp2
    go_ret
    exact ⟨by rw [HX.out]; rfl, rfl⟩

/-- the closure keeps the list and says so -/
theorem repClosure (w : World) (bo bf : Nat) (v : Value) (a : Option Addr) (n c : Nat) (hv : v = .slice a n c) (co : Array Value) (Ko : Blk w bo 22 #[.slice none 0 0]) (Kf : Blk w bf 4 #[.bool false]) (hne : bo ≠ bf) (_ : co = #[]) :
    Calls Tryz.prog 268 #[v, .pointer (some ⟨bo, 0, none⟩), .pointer (some ⟨bf, 0, none⟩)] w fun e w' => e = .returned (.bool false) ∧ Blk w' bo 22 #[v] ∧ Blk w' bf 4 #[.bool true] ∧ GrownIn w w' (fun k => k = bo ∨ k = bf) := by
  subst hv
  have Go := Ko.cell
  have Gf := Kf.cell
  have Fo := Ko.frozen
  have Ff := Kf.frozen
  have zo := Ko.lt
  have zf := Kf.lt
  have hne2 : ¬ bf = bo := fun e => hne e.symm
  go_enter Tryz.func268, Tryz.ntmps268
  go_wp2
  refine post_named ?_
  intro Wf hWf
  have K1 : Blk Wf bo 22 #[.slice a n c] := by
    rw [hWf]
    have := (Ko.set 0 (.slice a n c)).far (p := ⟨bf, 0, none⟩) hne (.bool true)
    simpa using this
  have K2 : Blk Wf bf 4 #[.bool true] := by
    rw [hWf]
    have := (Kf.far (p := ⟨bo, 0, none⟩) hne2 (.slice a n c)).set 0 (.bool true)
    simpa using this
  have hg : GrownIn w Wf (fun k => k = bo ∨ k = bf) := by
    rw [hWf]
    exact (GrownIn.of_row (grown_setCell w ⟨bo, 0, none⟩ _) (fun k hk => .inl (Option.some.inj hk).symm)).trans (GrownIn.of_row (grown_setCell _ ⟨bf, 0, none⟩ _) (fun k hk => .inr (Option.some.inj hk).symm))
  clear hWf Go Gf Fo Ff
  go_ret
  exact ⟨rfl, K1, K2, hg⟩
theorem repClosure_enters : ∀ args w, (callFunc 268 args).run Tryz.prog w = .ok (.enter 268 args) w := enters_of Tryz.func268 (by kernel_rfl) rfl
end Go.Proofs.YtipejodijbjpcaaGreatDoor
end
