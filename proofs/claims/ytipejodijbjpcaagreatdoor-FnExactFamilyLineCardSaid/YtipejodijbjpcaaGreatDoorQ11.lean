/- Functions as texts: both programs. The elements of a set. Sets as texts: both programs. -/
import Derived.Test.YtipejodijbjpcaaGreatDoorQ10
section
namespace Go.Proofs.YtipejodijbjpcaaGreatDoor
open Go.RowKit Go.G5

theorem fun_len {n : Int} {l : List Int} (h : isFunB n l = true) : l.length ≤ 32 := by
  obtain ⟨_, _, _, _, h32, _⟩ := fun_nat h
  exact h32
def funTx (n : Int) (l : List Int) : ByteArray := if isFunB n l = true then joinB comma (l.map itoaB) else ByteArray.empty
theorem funTx_size (n : Int) (l : List Int) : (funTx n l).size ≤ 704 := by
  unfold funTx
  split
  · rename_i h
    obtain ⟨N, _, _, _, h32, hlb⟩ := fun_nat h
    have := commas_size l (fun x hx => by
      obtain ⟨k, hk, rfl⟩ := List.mem_iff_getElem.1 hx
      have := hlb k hk
      exact ⟨by omega, by omega⟩)
    omega
  · simp
set_option maxHeartbeats 1000000 in
set_option maxRecDepth 100000 in
theorem fmtFunI_any (n : Int) (l : List Int) (v : Value) (w : World) (hv : Ints w v l) (hp : Pow w) :
    Calls Tryz.prog 14 #[.agg #[.int .i64 n, v]] w fun e w' => e = .returned (.string (funTx n l)) ∧ Below w.heap.size w w' := by
  have hv0 := hv
  obtain ⟨a, c, rfl⟩ := hv.shape
  have K0 := Blk.new w 32 #[.int .i64 n, .slice a l.length c]
  go_enter Tryz.func14, Tryz.ntmps14
  go_wp2_with fail
  refine (isFunI_any n l _ _ (hv0.alloc _)).mono ?_
  rintro e w1 ⟨rfl, hb1⟩
  have K1 := K0.keep hb1
  have B1 : Below w.heap.size w w1 := (bl1 _ _).after hb1 (by simp)
  have G1 := K1.cell
  cases hf : isFunB n l with
  | false =>
    have hx : funTx n l = ByteArray.empty := by unfold funTx; rw [hf]; rfl
    have HX := Lib.hid hx
    clear hx hf
    go_wp2
    go_ret
    exact ⟨ret_str HX.out.symm, B1⟩
  | true =>
    have hx : funTx n l = joinB comma (l.map itoaB) := by unfold funTx; rw [if_pos hf]
    have h32 := fun_len hf
    have HJ := Lib.hid (joinIntsI_any l _ w1 (hv0.below B1 (Nat.le_refl _)) (by omega) (hp.keep B1))
    have HX := Lib.hid hx
    clear hx hf h32
    go_wp2_with fail
    refine HJ.out.mono ?_
    rintro e w2 ⟨rfl, hb2⟩
    go_wp2
    go_ret
    exact ⟨ret_str HX.out.symm, B1.after hb2 B1.size⟩
set_option maxHeartbeats 1000000 in
set_option maxRecDepth 100000 in
theorem fmtFunS_any (n : Int) (l : List Int) (v : Value) (w : World) (hv : Ints w v l) :
    Calls Tryz.prog 211 #[.agg #[.int .i64 n, v]] w fun e w' => e = .returned (.string (funTx n l)) ∧ Below w.heap.size w w' := by
  have hv0 := hv
  have hin := hv.inR
  obtain ⟨a, b, off, c, rfl, hlen, hix, hc, hb⟩ := hv.view Tryz.prog 22 3 Tryz.underlying22 intElem
  have K0 := Blk.new w 32 #[.int .i64 n, .slice a l.length c]
  have HC := Lib.hid hc
  have HIN := Lib.hid hin
  have HIX := Lib.hid hix
  clear hc hin hix hlen
  cases hf : isFunB n l with
  | false =>
    have hx : funTx n l = ByteArray.empty := by unfold funTx; rw [hf]; rfl
    have HX := Lib.hid hx
    have HF := Lib.hid hf
    clear hx hf
    go_enter Tryz.func211, Tryz.ntmps211
    go_wp2_with fail
    go_loopw [3, 4] (fun sv iv wr => iv = .int .i64 0 ∧ sv = .string ⟨#[]⟩ ∧ Below w.heap.size w wr ∧ Blk wr w.heap.size 32 #[.int .i64 n, .slice a l.length c]) (fun _ _ _ => 0)
    case atStart => exact ⟨rfl, rfl, bl1 _ _, K0⟩
    case round =>
      obtain ⟨rfl, rfl, B, K⟩ := hrel
      have G1 := K.cell
      go_wp2_with fail
      refine (isFunS_any n l _ _ (hv0.below B (Nat.le_refl _))).mono ?_
      rintro e w1 ⟨rfl, hb1⟩
      rw [HF.out]
      go_wp2
      go_ret
      exact ⟨ret_str HX.out.symm, B.after hb1 B.size⟩
  | true =>
    have hx : funTx n l = joinB comma (l.map itoaB) := by unfold funTx; rw [if_pos hf]
    have h32 := fun_len hf
    have hl : l.length ≤ 1000 := by omega
    have HX := Lib.hid hx
    have HF := Lib.hid hf
    clear hx hf h32
    go_enter Tryz.func211, Tryz.ntmps211
    go_wp2_with fail
    go_loopw [3, 4] (fun sv iv wr => ∃ (k : Nat) (S : ByteArray), k ≤ l.length ∧ iv = .int .i64 k ∧ sv = .string S ∧ S = joinB comma ((l.take k).map itoaB) ∧ Below w.heap.size w wr ∧ Blk wr w.heap.size 32 #[.int .i64 n, .slice a l.length c]) (fun _ iv _ => l.length - (intOf iv).toNat)
    case atStart => exact ⟨0, _, Nat.zero_le _, rfl, rfl, rfl, bl1 _ _, K0⟩
    case round =>
      obtain ⟨k, S, hk, rfl, rfl, hS, B, K⟩ := hrel
      obtain ⟨wz, rfl⟩ : ∃ q : World, q = wr := ⟨_, rfl⟩
      have HS := Lib.hid hS
      clear hS K0
      have G1 := K.cell
      go_wp2_with fail
      refine (isFunS_any n l _ _ (hv0.below B (Nat.le_refl _))).mono ?_
      rintro e w1 ⟨rfl, hb1⟩
      rw [HF.out]
      have K := K.keep hb1
      have B := B.after hb1 B.size
      clear G1 hb1
      have G1 := K.cell
      have hS := HS.out
      have hSs : S.size ≤ 22000 := by rw [hS]; exact commas_take l k HIN.out hl hk
      by_cases hlt : k < l.length
      · have hlt2 : (k : Int) < (l.length : Int) := by omega
        have hck := cells_below HC.out hb B (Nat.le_refl _) k hlt
        have hik := fun W => HIX.out W k hlt
        have hnx := commas_next l k hlt
        have hxr := HIN.out l[k] (List.getElem_mem hlt)
        rw [← hS] at hnx
        have hS0 : k = 0 → S = ByteArray.empty := fun h => by rw [hS, h]; rfl
        obtain ⟨x, hx⟩ : ∃ x, x = l[k] := ⟨_, rfl⟩
        rw [← hx] at hck hnx hxr
        have hT := itoaB_size x hxr
        have hF := fmtS_any x hxr w1
        obtain ⟨T, hTe⟩ : ∃ T, T = itoaB x := ⟨_, rfl⟩
        rw [← hTe] at hnx hT hF
        have HFF := Lib.hid hF
        have HNX := Lib.hid hnx
        clear hF hnx hx hTe hS HS
        by_cases hk0 : k = 0
        · have hSe := hS0 hk0
          subst hSe
          have HK0 := Lib.hid hk0
          have hgt : ¬ 0 < (k : Int) := by omega
          have hgt2 : ¬ 0 < k := by omega
          clear hS0 hk0
          go_wp2_with fail
          refine HFF.out.mono ?_
          rintro e w3 ⟨rfl, b3⟩
          have B := B.after b3 B.size
          have K := K.keep b3
          go_wp2
          go_roundw
          case rel => exact ⟨k + 1, _, by omega, by go_num, rfl, by rw [HNX.out, if_pos HK0.out], B, K⟩
          case measure => simp [intOf]; omega
        · have hgt : 0 < (k : Int) := by omega
          have hgt2 : 0 < k := by omega
          have hS2 : (S ++ comma).size ≤ 22001 := by rw [ByteArray.size_append]; show S.size + 1 ≤ 22001; omega
          clear hS0
          go_wp2_with fail
          refine HFF.out.mono ?_
          rintro e w3 ⟨rfl, b3⟩
          have B := B.after b3 B.size
          have K := K.keep b3
          go_wp2
          go_roundw
          case rel => exact ⟨k + 1, _, by omega, by go_num, rfl, by rw [HNX.out, if_neg hk0]; rfl, B, K⟩
          case measure => simp [intOf]; omega
      · have hlt2 : ¬ (k : Int) < (l.length : Int) := by omega
        have hSl : funTx n l = S := by rw [HX.out, hS, show k = l.length by omega, List.take_length]
        have HSL := Lib.hid hSl
        clear hSl hS HS
        go_wp2
        go_ret
        exact ⟨ret_str HSL.out.symm, B⟩
end Go.Proofs.YtipejodijbjpcaaGreatDoor
end
section
namespace Go.Proofs.YtipejodijbjpcaaGreatDoor
open Go.RowKit Go.G5

def elL (s : Int) : List Int := famOf s.toNat 6
theorem elL_bd (s : Int) (n : Nat) (hn : n ≤ 6) (h1 : s.toNat < 2 ^ n) : ∀ x ∈ elL s, 0 ≤ x ∧ x < (n : Int) := by
  have h2 : s.toNat < 2 ^ 6 := Nat.lt_of_lt_of_le h1 (Nat.pow_le_pow_right (by decide) hn)
  unfold elL
  rw [famOf_same s.toNat 6 n h2 h1]
  exact famOf_bd _ _
theorem elL_bd6 (s : Int) : ∀ x ∈ elL s, 0 ≤ x ∧ x < 6 := by
  intro x hx
  unfold elL at hx
  have := famOf_bd s.toNat 6 x hx
  omega
theorem elL_len6 (s : Int) : (elL s).length ≤ 6 := by
  unfold elL famOf
  exact chosen_len _ 6
theorem elL_len : ∀ s : Nat, s < 64 → (famOf s 6).length = pop s := by decide +kernel
theorem elL_pop (s : Int) (h : s < 64) : ((elL s).length : Int) = ipop s := by
  unfold elL ipop
  rw [elL_len s.toNat (by omega)]

theorem l2List_i (s : Int) (w : World) (h0 : 0 ≤ s) (h1 : s < 64) :
    Calls Tryz.prog 174 #[.int .i64 s] w fun e w' => ∃ ad i cp, e = .returned (.slice ad i cp) ∧ OwnI 3 w.heap.size w' (.slice ad i cp) (elL s) ∧ Below w.heap.size w w' := by
  have := l2List_any w s.toNat (by omega)
  rw [show ((s.toNat : Nat) : Int) = s by omega, famOf_same s.toNat 32 6 (by omega) (by omega)] at this
  exact this

set_option maxHeartbeats 1000000 in
theorem elementsOf_i (s : Int) (w : World) (h0 : 0 ≤ s) (h1 : s < 64) :
    Calls Tryz.prog 171 #[.int .i64 s] w fun e w' => ∃ ad i cp, e = .returned (.slice ad i cp) ∧ OwnI 3 w.heap.size w' (.slice ad i cp) (elL s) ∧ Below w.heap.size w w' := by
  obtain ⟨code, rfl⟩ := Int.eq_ofNat_of_zero_le h0
  have hc : code < 64 := by omega
  have hel : elL (code : Int) = famOf code 6 := by unfold elL; rw [show ((code : Int)).toNat = code by omega]
  have HEL := Lib.hid hel
  clear hel
  go_enter Tryz.func171, Tryz.ntmps171
  go_wp2
  go_loopw [3, 4] (fun out i wr => ∃ (k : Nat) (ad : Option Addr) (nn cp : Nat), k ≤ 6 ∧ out = .slice ad nn cp ∧ i = .int .i64 k ∧ OwnI 3 w.heap.size wr (.slice ad nn cp) (famOf code k) ∧ Below w.heap.size w wr)
    (fun _ i _ => 7 - (intOf i).toNat)
  case atStart => exact ⟨0, none, 0, 0, by omega, rfl, rfl, OwnI.nil _ _ _, Below.refl _ _⟩
  case round =>
    obtain ⟨k, ad, nn, cp, hk, rfl, rfl, ho, B⟩ := hrel
    have hbit := bit_is (code : Int) k (by omega) (by omega)
    have hnb := nbit_is code k
    have hlen := chosen_len (nbit code) k
    have hdiv : ((code : Int) / 2 ^ k) = ((code / 2 ^ k : Nat) : Int) := by push_cast; rfl
    have hql : code / 2 ^ k ≤ code := Nat.div_le_self _ _
    have hz : code / 2 ^ k ≠ 0 → k + 1 ≤ 6 := by
      intro h
      by_cases h2 : k + 1 ≤ 6
      · exact h2
      · exfalso
        have : k = 6 := by omega
        rw [this, Nat.div_eq_of_lt hc] at h
        exact h rfl
    have hcs : famOf code (k + 1) = if nbit code k then famOf code k ++ [(k : Int)] else famOf code k := chosen_succ (nbit code) k
    obtain ⟨q, hq⟩ : ∃ q, q = code / 2 ^ k := ⟨_, rfl⟩
    obtain ⟨y, hy⟩ : ∃ y, y = ibit (code : Int) k := ⟨_, rfl⟩
    rw [← hq] at hdiv hz hql
    rw [← hy] at hbit hnb
    rw [hdiv] at hbit
    have HQ := Lib.hid hq
    have HO := Lib.hid ho
    have HB := Lib.hid B
    have HCS := Lib.hid hcs
    have HZ := Lib.hid hz
    clear hq hy ho B hcs hz
    by_cases h0 : q = 0
    · subst h0
      have hr : famOf code k = famOf code 6 := by
        have hlt : code < 2 ^ k := by
          rcases Nat.lt_or_ge code (2 ^ k) with h | h
          · exact h
          · have := Nat.div_pos h (Nat.two_pow_pos k)
            have := HQ.out
            omega
        exact famOf_same code k 6 hlt (by omega)
      have HR := Lib.hid hr
      clear hr
      go_wp2
      go_ret
      exact ⟨ad, nn, cp, rfl, by rw [HEL.out, ← HR.out]; exact HO.out, HB.out⟩
    · have hk1 := HZ.out h0
      have ht : ((q : Int) != 0) = true := by simp; omega
      have hrow := HO.out.lt
      cases hb : nbit code k with
      | true =>
        have hy1 : (y == 1) = true := by rw [hnb, hb]
        have HBB := Lib.hid hb
        clear hb hnb
        go_wp2_with (at_builtin; refine wpList_appendI rfl _ _ _ rfl 3 Tryz.underlying22 intElem w.heap.size _ _ (k : Int) wr.heap.size rfl rfl (cell_new wr #[.int .i64 k] 3 0 _ rfl) (HO.out.alloc _) ⟨by omega, by omega⟩ (by unfold famOf; omega) (by have := HB.out.size; simp; omega) ?_; intro v' w6 hown hgr; obtain ⟨av, nv, cv, rfl⟩ := hown.shape3)
        have B6 : Below w.heap.size w w6 := (HB.out.alloc HB.out.size (.cells #[.int .i64 k] 3)).grown hgr (by have := HB.out.size; simp; omega) (fun p hp => (hrow p hp).1)
        go_roundw
        case rel => exact ⟨k + 1, av, nv, cv, hk1, rfl, by go_num, by rw [HCS.out, HBB.out]; exact hown, B6⟩
        case measure => simp [intOf]; omega
      | false =>
        have hy1 : (y == 1) = false := by rw [hnb, hb]
        have HBB := Lib.hid hb
        clear hb hnb
        go_wp2
        go_roundw
        case rel => exact ⟨k + 1, ad, nn, cp, hk1, rfl, by go_num, by rw [HCS.out, HBB.out]; exact HO.out, HB.out⟩
        case measure => simp [intOf]; omega
end Go.Proofs.YtipejodijbjpcaaGreatDoor
end
section
namespace Go.Proofs.YtipejodijbjpcaaGreatDoor
open Go.RowKit Go.G5

def dashB : ByteArray := ⟨#[45]⟩
def setOk (n s : Int) : Bool := inB n 0 6 && isSet n.toNat s
def setTx (n s : Int) : ByteArray := if setOk n s = true then (if s = 0 then dashB else joinB comma ((elL s).map itoaB)) else ByteArray.empty
theorem setOk_true {n s : Int} (h : setOk n s = true) : 0 ≤ n ∧ n ≤ 6 ∧ 0 ≤ s ∧ s < 64 := by
  unfold setOk at h
  rw [Bool.and_eq_true] at h
  have h1 := inB_true.1 h.1
  have h2 := isSet_true.1 h.2
  have := pow_le64 h1.1 h1.2
  exact ⟨h1.1, h1.2, h2.1, by omega⟩
theorem elL_nil : ∀ s : Nat, s < 64 → (famOf s 6 = [] ↔ s = 0) := by decide +kernel
theorem elL_nil' (s : Int) (h0 : 0 ≤ s) (h : s < 64) : elL s = [] ↔ s = 0 := by
  unfold elL
  rw [elL_nil s.toNat (by omega)]
  omega
theorem elL_inR (s : Int) : ∀ x ∈ elL s, InR x := fun x hx => by
  have := elL_bd6 s x hx
  exact ⟨by omega, by omega⟩
theorem setTx_size (n s : Int) : (setTx n s).size ≤ 132 := by
  unfold setTx
  split
  · split
    · show 1 ≤ 132; omega
    · have h1 := commas_size (elL s) (elL_inR s)
      have h2 := elL_len6 s
      omega
  · simp
theorem setTx_ne (n s : Int) (h : setOk n s = true) : setTx n s ≠ ByteArray.empty := by
  unfold setTx
  rw [if_pos h]
  have hs := setOk_true h
  split
  · intro e
    have := congrArg ByteArray.size e
    exact absurd this (by decide)
  · rename_i h0
    rw [Ne, commas_emp, elL_nil' s hs.2.2.1 hs.2.2.2]
    exact h0
set_option maxHeartbeats 1000000 in
set_option maxRecDepth 100000 in
theorem fmtSetI_any (n s : Int) (w : World) (hp : Pow w) :
    Calls Tryz.prog 98 #[.int .i64 n, .int .i64 s] w fun e w' => e = .returned (.string (setTx n s)) ∧ Below w.heap.size w w' := by
  have hwi := within_any n 0 6 w
  cases h1 : inB n 0 6 with
  | false =>
    have hx : setTx n s = ByteArray.empty := by unfold setTx setOk; rw [h1]; rfl
    have HX := Lib.hid hx
    rw [h1] at hwi
    have HW := Lib.hid hwi
    clear hwi hx h1
    go_enter Tryz.func98, Tryz.ntmps98
    go_wp2_with fail
    refine HW.out.mono ?_
    rintro e w1 ⟨rfl, rfl⟩
    go_wp2
    go_ret
    exact ⟨ret_str HX.out.symm, Below.refl _ _⟩
  | true =>
    have hb := inB_true.1 h1
    have his := isSetOf_i n s w hb.1 (by omega)
    rw [h1] at hwi
    have HW := Lib.hid hwi
    cases h2 : isSet n.toNat s with
    | false =>
      have hx : setTx n s = ByteArray.empty := by unfold setTx setOk; rw [h1, h2]; rfl
      rw [h2] at his
      have HX := Lib.hid hx
      have HI := Lib.hid his
      clear hwi hx h1 h2 his
      go_enter Tryz.func98, Tryz.ntmps98
      go_wp2_with fail
      refine HW.out.mono ?_
      rintro e w1 ⟨rfl, rfl⟩
      go_wp2_with fail
      refine HI.out.mono ?_
      rintro e w1 ⟨rfl, rfl⟩
      go_wp2
      go_ret
      exact ⟨ret_str HX.out.symm, Below.refl _ _⟩
    | true =>
      have hok : setOk n s = true := by unfold setOk; rw [h1, h2]; rfl
      obtain ⟨_, _, hs0, hs64⟩ := setOk_true hok
      rw [h2] at his
      have HI := Lib.hid his
      by_cases hz : s = 0
      · have hx : setTx n s = dashB := by unfold setTx; rw [if_pos hok, if_pos hz]
        have HX := Lib.hid hx
        have hz2 : (s == 0) = true := by simpa using hz
        clear hwi hx h1 h2 his hok hz
        go_enter Tryz.func98, Tryz.ntmps98
        go_wp2_with fail
        refine HW.out.mono ?_
        rintro e w1 ⟨rfl, rfl⟩
        go_wp2_with fail
        refine HI.out.mono ?_
        rintro e w1 ⟨rfl, rfl⟩
        go_wp2
        go_ret
        exact ⟨ret_str HX.out.symm, Below.refl _ _⟩
      · have hx : setTx n s = joinB comma ((elL s).map itoaB) := by unfold setTx; rw [if_pos hok, if_neg hz]
        have HX := Lib.hid hx
        have hz2 : (s == 0) = false := by simpa using hz
        have HE := Lib.hid (elementsOf_i s w hs0 hs64)
        clear hwi hx h1 h2 his hok hz
        go_enter Tryz.func98, Tryz.ntmps98
        go_wp2_with fail
        refine HW.out.mono ?_
        rintro e w1 ⟨rfl, rfl⟩
        go_wp2_with fail
        refine HI.out.mono ?_
        rintro e w1 ⟨rfl, rfl⟩
        go_wp2_with fail
        refine HE.out.mono ?_
        rintro e w1 ⟨ad, i, cp, rfl, o1, b1⟩
        have HJ := Lib.hid (joinIntsI_any (elL s) _ w1 o1.ints (by have := elL_len6 s; omega) (hp.keep b1))
        go_wp2_with fail
        refine HJ.out.mono ?_
        rintro e w2 ⟨rfl, b2⟩
        go_wp2
        go_ret
        exact ⟨ret_str HX.out.symm, b1.after b2 b1.size⟩
set_option maxHeartbeats 1000000 in
set_option maxRecDepth 100000 in
theorem fmtSetS_any (n s : Int) (w : World) :
    Calls Tryz.prog 81 #[.int .i64 n, .int .i64 s] w fun e w' => e = .returned (.string (setTx n s)) ∧ Below w.heap.size w w' := by
  have hwi := l1In_any n 0 6 w
  cases h1 : inB n 0 6 with
  | false =>
    have hx : setTx n s = ByteArray.empty := by unfold setTx setOk; rw [h1]; rfl
    have HX := Lib.hid hx
    rw [h1] at hwi
    have HW := Lib.hid hwi
    clear hwi hx h1
    go_enter Tryz.func81, Tryz.ntmps81
    go_wp2_with fail
    refine HW.out.mono ?_
    rintro e w1 ⟨rfl, rfl⟩
    go_wp2
    go_ret
    exact ⟨ret_str HX.out.symm, Below.refl _ _⟩
  | true =>
    have hb := inB_true.1 h1
    have hfu := l2Full_i n w hb.1 (by omega)
    have his := l1In_any s 0 (2 ^ n.toNat - 1) w
    rw [isSet_inB] at his
    obtain ⟨f, hf⟩ : ∃ f : Int, f = 2 ^ n.toNat - 1 := ⟨_, rfl⟩
    rw [← hf] at hfu his
    rw [h1] at hwi
    have HW := Lib.hid hwi
    have HFU := Lib.hid hfu
    clear hf hfu
    cases h2 : isSet n.toNat s with
    | false =>
      have hx : setTx n s = ByteArray.empty := by unfold setTx setOk; rw [h1, h2]; rfl
      rw [h2] at his
      have HX := Lib.hid hx
      have HI := Lib.hid his
      clear hwi hx h1 h2 his
      go_enter Tryz.func81, Tryz.ntmps81
      go_wp2_with fail
      refine HW.out.mono ?_
      rintro e w1 ⟨rfl, rfl⟩
      go_wp2_with fail
      refine HFU.out.mono ?_
      rintro e w1 ⟨rfl, rfl⟩
      go_wp2_with fail
      refine HI.out.mono ?_
      rintro e w1 ⟨rfl, rfl⟩
      go_wp2
      go_ret
      exact ⟨ret_str HX.out.symm, Below.refl _ _⟩
    | true =>
      have hok : setOk n s = true := by unfold setOk; rw [h1, h2]; rfl
      obtain ⟨_, _, hs0, hs64⟩ := setOk_true hok
      rw [h2] at his
      have HI := Lib.hid his
      have HOK := Lib.hid hok
      have HE := Lib.hid (l2List_i s w hs0 hs64)
      obtain ⟨l, hl⟩ : ∃ l, l = elL s := ⟨_, rfl⟩
      have hl6 : l.length ≤ 1000 := by rw [hl]; have := elL_len6 s; omega
      have hln : (l = []) = (s = 0) := by rw [hl]; exact propext (elL_nil' s hs0 hs64)
      have hlx : setTx n s = if l = [] then dashB else joinB comma (l.map itoaB) := by
        unfold setTx; rw [if_pos hok, hl]; simp only [elL_nil' s hs0 hs64]
      have HLX := Lib.hid hlx
      rw [← hl] at HE
      clear hwi h1 h2 his hok hln hlx hl
      go_enter Tryz.func81, Tryz.ntmps81
      go_wp2_with fail
      refine HW.out.mono ?_
      rintro e w1 ⟨rfl, rfl⟩
      go_wp2_with fail
      refine HFU.out.mono ?_
      rintro e w1 ⟨rfl, rfl⟩
      go_wp2_with fail
      refine HI.out.mono ?_
      rintro e w1 ⟨rfl, rfl⟩
      go_wp2_with fail
      refine HE.out.mono ?_
      rintro e w1 ⟨ad, i, cp, rfl, o1, b1⟩
      have hv := o1.ints
      have hin := hv.inR
      have hi : i = l.length := hv.capLe.1
      subst hi
      obtain ⟨a, b, off, c, hve, hlen, hix, hc, hb⟩ := hv.view Tryz.prog 22 3 Tryz.underlying22 intElem
      injection hve with e1 _ e3
      subst e1 e3
      have HC := Lib.hid hc
      have HIN := Lib.hid hin
      have HIX := Lib.hid hix
      have HB1 := Lib.hid b1
      clear hc hin hix hlen hv o1 b1
      go_wp2_with fail
      go_loopw [5, 7] (fun sv iv wr => ∃ (k : Nat) (S : ByteArray), k ≤ l.length ∧ iv = .int .i64 k ∧ sv = .string S ∧ S = joinB comma ((l.take k).map itoaB) ∧ Below w1.heap.size w1 wr) (fun _ iv _ => l.length - (intOf iv).toNat)
      case atStart => exact ⟨0, _, Nat.zero_le _, rfl, rfl, rfl, Below.refl _ _⟩
      case round =>
        obtain ⟨k, S, hk, rfl, rfl, hS, B⟩ := hrel
        obtain ⟨wz, rfl⟩ : ∃ q : World, q = wr := ⟨_, rfl⟩
        have hSs : S.size ≤ 22000 := by rw [hS]; exact commas_take l k HIN.out hl6 hk
        by_cases hlt : k < l.length
        · have hlt2 : (k : Int) < (l.length : Int) := by omega
          have hck := cells_below HC.out hb B (Nat.le_refl _) k hlt
          have hik := fun W => HIX.out W k hlt
          have hnx := commas_next l k hlt
          have hxr := HIN.out l[k] (List.getElem_mem hlt)
          rw [← hS] at hnx
          have hS0 : k = 0 → S = ByteArray.empty := fun h => by rw [hS, h]; rfl
          obtain ⟨x, hx⟩ : ∃ x, x = l[k] := ⟨_, rfl⟩
          rw [← hx] at hck hnx hxr
          have hT := itoaB_size x hxr
          have hF := fmtS_any x hxr wz
          obtain ⟨T, hTe⟩ : ∃ T, T = itoaB x := ⟨_, rfl⟩
          rw [← hTe] at hnx hT hF
          have HF := Lib.hid hF
          have HNX := Lib.hid hnx
          clear hF hnx hx hTe hS
          by_cases hk0 : k = 0
          · have hSe := hS0 hk0
            subst hSe
            have HK0 := Lib.hid hk0
            have hgt : ¬ 0 < (k : Int) := by omega
            have hgt2 : ¬ 0 < k := by omega
            clear hS0 hk0
            go_wp2_with fail
            refine HF.out.mono ?_
            rintro e w3 ⟨rfl, b3⟩
            have B := B.after b3 B.size
            go_wp2
            go_roundw
            case rel => exact ⟨k + 1, _, by omega, by go_num, rfl, by rw [HNX.out, if_pos HK0.out], B⟩
            case measure => simp [intOf]; omega
          · have hgt : 0 < (k : Int) := by omega
            have hgt2 : 0 < k := by omega
            have hS2 : (S ++ comma).size ≤ 22001 := by rw [ByteArray.size_append]; show S.size + 1 ≤ 22001; omega
            clear hS0
            go_wp2_with fail
            refine HF.out.mono ?_
            rintro e w3 ⟨rfl, b3⟩
            have B := B.after b3 B.size
            go_wp2
            go_roundw
            case rel => exact ⟨k + 1, _, by omega, by go_num, rfl, by rw [HNX.out, if_neg hk0]; rfl, B⟩
            case measure => simp [intOf]; omega
        · have hlt2 : ¬ (k : Int) < (l.length : Int) := by omega
          have hSl : S = joinB comma (l.map itoaB) := by rw [hS, show k = l.length by omega, List.take_length]
          have hem := str_emp S
          have he2 : decide (S = ByteArray.empty) = decide (l = []) := by rw [hSl]; simp only [commas_emp]
          rw [he2] at hem
          have BB := HB1.out.after B HB1.out.size
          cases h0 : decide (l = []) with
          | true =>
            have hl0 : setTx n s = dashB := by rw [HLX.out, if_pos (of_decide_eq_true h0)]
            rw [h0] at hem
            have HL0 := Lib.hid hl0
            clear h0 he2 hSl hl0 hS
            go_wp2
            go_ret
            exact ⟨ret_str HL0.out.symm, BB⟩
          | false =>
            have hl0 : setTx n s = S := by rw [HLX.out, if_neg (of_decide_eq_false h0)]; exact hSl.symm
            rw [h0] at hem
            have HL0 := Lib.hid hl0
            clear h0 he2 hSl hl0 hS
            go_wp2
            go_ret
            exact ⟨ret_str HL0.out.symm, BB⟩
end Go.Proofs.YtipejodijbjpcaaGreatDoor
end
