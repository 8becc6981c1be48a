/- Violations: what is computed. Increasing functions. Increasing functions: the second program. -/
import Derived.Test.YtpaoiiiceekkkaaGreatDoorQ08
section
namespace Go.Proofs.YtpaoiiiceekkkaaGreatDoor
open Go.RowKit Go.G5

def exL (l : List Int) (s i k : Nat) : Int := l.getD (setBit s i ||| setBit s k) 0 + l.getD s 0 - l.getD (setBit s i) 0 - l.getD (setBit s k) 0
def badB (l : List Int) (t : Tri) : Bool := decide (0 < exL l t.1 t.2.1 t.2.2)
def vstep (l : List Int) (a : Option Tri) (t : Tri) : Option Tri × Bool := if badB l t then (some t, false) else (a, a.isNone)
def violT (n : Nat) (l : List Int) : Option Tri := (runT (vstep l) (tri3 n (2 ^ n)) none).1
def violR (n : Int) (l : List Int) : Option Tri := if isFunB n l then violT n.toNat l else none
def violB (n : Int) (l : List Int) : Bool := (violR n l).isSome
def triL : Option Tri → List Int
  | none => []
  | some t => [(t.1 : Int), (t.2.1 : Int), (t.2.2 : Int)]
def violL (n : Int) (l : List Int) : List Int := triL (violR n l)
def subB (n : Int) (l : List Int) : Bool := isFunB n l && !violB n l
theorem or_again (s x y : Nat) : (s ||| x) ||| (s ||| y) = (s ||| x) ||| y := by
  apply Nat.eq_of_testBit_eq
  intro j
  simp only [Nat.testBit_or]
  cases s.testBit j <;> cases x.testBit j <;> cases y.testBit j <;> rfl
theorem setBit_or (s i k : Nat) : setBit s i ||| setBit s k = setBit (setBit s i) k := by unfold setBit; exact or_again s (2 ^ i) (2 ^ k)
theorem violL_len (n : Int) (l : List Int) : (violL n l).length ≤ 3 := by
  unfold violL
  cases violR n l <;> simp [triL]
theorem exL_bd (n : Nat) (l : List Int) (hl : l.length = 2 ^ n) (hb : ∀ k, (hk : k < l.length) → -1000 ≤ l[k] ∧ l[k] ≤ 1000) (s i k : Nat) (hs : s < 2 ^ n) (hi : i < n) (hk : k < n) : -4000 ≤ exL l s i k ∧ exL l s i k ≤ 4000 := by
  have h1 := setBit_lt s i n hs hi
  have h2 := setBit_lt s k n hs hk
  have h3 := setBit_lt (setBit s i) k n h1 hk
  rw [← setBit_or] at h3
  unfold exL
  rw [getD_at l _ (by omega), getD_at l _ (by omega), getD_at l _ (by omega), getD_at l _ (by omega)]
  have b1 := hb (setBit s i) (by omega)
  have b2 := hb (setBit s k) (by omega)
  have b3 := hb (setBit s i ||| setBit s k) (by omega)
  have b4 := hb s (by omega)
  omega
/-- a violation that is told is one -/
theorem viol_run (l : List Int) : ∀ (T : List Tri) (t : Tri), (runT (vstep l) T none).1 = some t → badB l t = true := by
  intro T
  induction T with
  | nil => intro t h; simp [runT] at h
  | cons u T ih =>
    intro t h
    rw [runT] at h
    by_cases hb : badB l u = true
    · have e : vstep l none u = (some u, false) := by unfold vstep; rw [if_pos hb]
      rw [e] at h
      simp at h
      rw [← h]; exact hb
    · have e : vstep l none u = (none, true) := by unfold vstep; rw [if_neg hb]; rfl
      rw [e] at h
      exact ih t h
end Go.Proofs.YtpaoiiiceekkkaaGreatDoor
end
section
namespace Go.Proofs.YtpaoiiiceekkkaaGreatDoor
open Go.RowKit Go.G5

def upB (l : List Int) (s e : Nat) : Bool := !decide (gainL l s e < 0)
def incB (n : Int) (l : List Int) : Bool := isFunB n l && allTo (fun s => allTo (upB l s) n.toNat) l.length
theorem fun_nat {n : Int} {l : List Int} (h : isFunB n l = true) : ∃ N : Nat, n = N ∧ N ≤ 5 ∧ l.length = 2 ^ N ∧ l.length ≤ 32 ∧ ∀ k, (hk : k < l.length) → -1000 ≤ l[k] ∧ l[k] ≤ 1000 := by
  obtain ⟨h0, h5, hlen, hlb⟩ := funOk h
  obtain ⟨N, rfl⟩ := Int.eq_ofNat_of_zero_le h0
  have hN5 : N ≤ 5 := by omega
  have hl2 : l.length = 2 ^ N := by
    have e2 : (N : Int).toNat = N := by omega
    rw [e2] at hlen
    exact_mod_cast hlen
  have p5 : (2 : Nat) ^ N ≤ 32 := Nat.pow_le_pow_right (n := 2) (by decide) hN5
  exact ⟨N, rfl, hN5, hl2, by omega, hlb⟩

set_option maxHeartbeats 2000000 in
set_option maxRecDepth 100000 in
theorem incI_any (n : Int) (l : List Int) (v : Value) (w : World) (hv : Ints w v l) :
    Calls Tryz.prog 291 #[.agg #[.int .i64 n, v]] w fun e w' => e = .returned (.bool (incB n l)) ∧ Below w.heap.size w w' := by
  have hv0 := hv
  obtain ⟨a, c, rfl⟩ := hv.shape
  have K0 := Blk.new w 27 #[.int .i64 n, .slice a l.length c]
  cases hf : isFunB n l with
  | false =>
    have hx : incB n l = false := by unfold incB; rw [hf]; rfl
    have HX := Lib.hid hx
    have HF := Lib.hid hf
    clear hx hf
    go_enter Tryz.func291, Tryz.ntmps291
    go_wp2_with (go_at_call 70; refine (isFunI_any n l _ _ (hv0.alloc _)).mono ?_; rintro e w1 ⟨rfl, hb1⟩; rw [HF.out])
    go_ret
    exact ⟨ret_bool HX.out.symm, (bl1 _ _).after hb1 (by simp)⟩
  | true =>
    obtain ⟨N, rfl, hN5, hl2, hl32, hlb⟩ := fun_nat hf
    have hx : incB N l = allTo (fun s => allTo (upB l s) N) l.length := by unfold incB; rw [hf]; simp
    obtain ⟨F, hF⟩ : ∃ F : Nat → Bool, F = fun s => allTo (upB l s) N := ⟨_, rfl⟩
    rw [← hF] at hx
    have HX := Lib.hid hx
    have HF := Lib.hid hf
    have HFF := Lib.hid hF
    have HLB := Lib.hid hlb
    have HL2 := Lib.hid hl2
    clear hx hf hF hlb hl2
    go_enter Tryz.func291, Tryz.ntmps291
    go_wp2_with fail
    refine (isFunI_any N l _ _ (hv0.alloc _)).mono ?_
    rintro e w1 ⟨rfl, hb1⟩
    rw [HF.out]
    have K1 := K0.keep hb1
    have B1 : Below w.heap.size w w1 := (bl1 _ _).after hb1 (by simp)
    have G1 := K1.cell
    clear K0 hb1
    go_wp2_with fail
    go_loopw [11] (fun i wr => ∃ s : Nat, s ≤ l.length ∧ i = .int .i64 s ∧ allTo F s = true ∧ Below w.heap.size w wr ∧ Blk wr w.heap.size 27 #[.int .i64 N, .slice a l.length c]) (fun i _ => l.length - (intOf i).toNat)
    case atStart => exact ⟨0, Nat.zero_le _, rfl, rfl, B1, K1⟩
    case round =>
      obtain ⟨s, hs, rfl, hall, B, K⟩ := hrel
      obtain ⟨wo, rfl⟩ : ∃ wo : World, wo = wr := ⟨_, rfl⟩
      have H := Lib.hid hall
      clear hall G1
      have G1 := K.cell
      by_cases hsl : s < l.length
      · have hFs : F s = allTo (upB l s) N := by rw [HFF.out]
        have HFS := Lib.hid hFs
        clear hFs
        go_wp2_with fail
        go_loopw [16] (fun i wr => ∃ k : Nat, k ≤ N ∧ i = .int .i64 k ∧ allTo (upB l s) k = true ∧ Below w.heap.size w wr ∧ Blk wr w.heap.size 27 #[.int .i64 N, .slice a l.length c]) (fun i _ => N - (intOf i).toNat)
        case atStart => exact ⟨0, Nat.zero_le _, rfl, rfl, B, K⟩
        case round =>
          obtain ⟨k, hk, rfl, hall, B2, K2⟩ := hrel
          obtain ⟨wi, rfl⟩ : ∃ wo : World, wo = wr := ⟨_, rfl⟩
          have H2 := Lib.hid hall
          clear hall G1
          have G1 := K2.cell
          by_cases hkn : k < N
          · have hse : setBit s k < l.length := by rw [HL2.out] at hsl ⊢; exact setBit_lt _ _ _ hsl hkn
            have hg := gain_any N l _ s k wi (hv0.below B2 (Nat.le_refl _)) (by omega) hsl (by omega) hse HLB.out
            have hup : upB l s k = !decide (gainL l s k < 0) := rfl
            obtain ⟨q, hq⟩ : ∃ q, q = gainL l s k := ⟨_, rfl⟩
            rw [← hq] at hg hup
            have HG := Lib.hid hg
            have HUP := Lib.hid hup
            clear hg hup hq
            by_cases hneg : q < 0
            · have hu : upB l s k = false := by rw [HUP.out, decide_eq_true hneg]; rfl
              have hbad : incB N l = false := by rw [HX.out]; exact allTo_false hsl (by rw [HFS.out]; exact allTo_false hkn hu)
              have HBAD := Lib.hid hbad
              clear hu hbad
              go_wp2_with (go_at_call 173; refine HG.out.mono ?_; rintro e w3 ⟨rfl, hb3⟩)
              go_ret
              exact ⟨ret_bool HBAD.out.symm, B2.after hb3 B2.size⟩
            · have hu : upB l s k = true := by rw [HUP.out, decide_eq_false hneg]; rfl
              have HU := Lib.hid hu
              clear hu
              go_wp2_with (go_at_call 173; refine HG.out.mono ?_; rintro e w3 ⟨rfl, hb3⟩)
              go_roundw
              case rel => exact ⟨k + 1, by omega, by go_num, allTo_succ H2.out HU.out, B2.after hb3 B2.size, K2.keep hb3⟩
              case measure => simp [intOf]; omega
          · have hkN : k = N := by omega
            subst hkN
            go_wp2
            go_roundw
            case rel => exact ⟨s + 1, by omega, by go_num, allTo_succ H.out (by rw [HFS.out]; exact H2.out), B2, K2⟩
            case measure => simp [intOf]; omega
      · have hsl' : s = l.length := by omega
        subst hsl'
        go_wp2
        go_ret
        exact ⟨ret_bool (by rw [HX.out, H.out]), B⟩
end Go.Proofs.YtpaoiiiceekkkaaGreatDoor
end
section
namespace Go.Proofs.YtpaoiiiceekkkaaGreatDoor
open Go.RowKit Go.G5

set_option maxHeartbeats 4000000 in
set_option maxRecDepth 100000 in
theorem incS_any (n : Int) (l : List Int) (v : Value) (w : World) (hv : Ints w v l) :
    Calls Tryz.prog 290 #[.agg #[.int .i64 n, v]] w fun e w' => e = .returned (.bool (incB n l)) ∧ Below w.heap.size w w' := by
  have hv0 := hv
  obtain ⟨a, b, off, c, rfl, hlen, hix, hc, hb⟩ := hv.view Tryz.prog 22 3 Tryz.underlying22 intElem
  have K0 := Blk.new w 27 #[.int .i64 n, .slice a l.length c]
  cases hf : isFunB n l with
  | false =>
    have hx : incB n l = false := by unfold incB; rw [hf]; rfl
    have HX := Lib.hid hx
    have HF := Lib.hid hf
    clear hx hf
    go_enter Tryz.func290, Tryz.ntmps290
    go_wp2_with fail
    go_loopw [3] (fun i wr => i = .int .i64 0 ∧ Below w.heap.size w wr ∧ Blk wr w.heap.size 27 #[.int .i64 n, .slice a l.length c]) (fun _ _ => 0)
    case atStart => exact ⟨rfl, bl1 _ _, K0⟩
    case round =>
      obtain ⟨rfl, B, K⟩ := hrel
      have G1 := K.cell
      go_wp2_with fail
      refine (isFunS_any n l _ _ (hv0.below B (Nat.le_refl _))).mono ?_
      rintro e w1 ⟨rfl, hb1⟩
      rw [HF.out]
      have B1 := B.after hb1 B.size
      have K1 := K.keep hb1
      clear G1
      have G1 := K1.cell
      go_wp2_with fail
      refine (isFunS_any n l _ _ (hv0.below B1 (Nat.le_refl _))).mono ?_
      rintro e w2 ⟨rfl, hb2⟩
      rw [HF.out]
      go_wp2
      go_ret
      exact ⟨ret_bool HX.out.symm, B1.after hb2 B1.size⟩
  | true =>
    obtain ⟨N, rfl, hN5, hl2, hl32, hlb⟩ := fun_nat hf
    have hx : incB N l = allTo (fun s => allTo (upB l s) N) l.length := by unfold incB; rw [hf]; simp
    obtain ⟨F, hF⟩ : ∃ F : Nat → Bool, F = fun s => allTo (upB l s) N := ⟨_, rfl⟩
    rw [← hF] at hx
    have HX := Lib.hid hx
    have HF := Lib.hid hf
    have HFF := Lib.hid hF
    have HLB := Lib.hid hlb
    have HL2 := Lib.hid hl2
    have HC := Lib.hid hc
    have HIX := Lib.hid hix
    clear hx hf hF hlb hl2 hc hix
    go_enter Tryz.func290, Tryz.ntmps290
    go_wp2_with fail
    go_loopw [3] (fun i wr => ∃ s : Nat, s ≤ l.length ∧ i = .int .i64 s ∧ allTo F s = true ∧ Below w.heap.size w wr ∧ Blk wr w.heap.size 27 #[.int .i64 N, .slice a l.length c]) (fun i _ => l.length - (intOf i).toNat)
    case atStart => exact ⟨0, Nat.zero_le _, rfl, rfl, bl1 _ _, K0⟩
    case round =>
      obtain ⟨s, hs, rfl, hall, B, K⟩ := hrel
      obtain ⟨wo, rfl⟩ : ∃ wo : World, wo = wr := ⟨_, rfl⟩
      have H := Lib.hid hall
      clear hall K0
      have G1 := K.cell
      go_wp2_with fail
      refine (isFunS_any N l _ _ (hv0.below B (Nat.le_refl _))).mono ?_
      rintro e w1 ⟨rfl, hb1⟩
      rw [HF.out]
      have K := K.keep hb1
      have B1 := B.after hb1 B.size
      clear G1 hb1 B
      have G1 := K.cell
      by_cases hsl : s < l.length
      · have hFs : F s = allTo (upB l s) N := by rw [HFF.out]
        have HFS := Lib.hid hFs
        clear hFs
        go_wp2_with fail
        go_loopw [4] (fun i wr => ∃ k : Nat, k ≤ N ∧ i = .int .i64 k ∧ allTo (upB l s) k = true ∧ Below w.heap.size w wr ∧ Blk wr w.heap.size 27 #[.int .i64 N, .slice a l.length c]) (fun i _ => N - (intOf i).toNat)
        case atStart => exact ⟨0, Nat.zero_le _, rfl, rfl, B1, K⟩
        case round =>
          obtain ⟨k, hk, rfl, hall, B2, K2⟩ := hrel
          obtain ⟨wi, rfl⟩ : ∃ wo : World, wo = wr := ⟨_, rfl⟩
          have H2 := Lib.hid hall
          clear hall G1
          have G1 := K2.cell
          by_cases hkn : k < N
          · have hse : setBit s k < l.length := by rw [HL2.out] at hsl ⊢; exact setBit_lt _ _ _ hsl hkn
            have c0 := cells_below HC.out hb B2 (Nat.le_refl _) s hsl
            have c1 := cells_below HC.out hb B2 (Nat.le_refl _) _ hse
            have i0 := fun W => HIX.out W s hsl
            have i1 := fun W => HIX.out W _ hse
            have q1 := setBit_is s k (by omega) (by omega)
            have hup : upB l s k = !decide (l[setBit s k] - l[s] < 0) := by unfold upB gainL; rw [getD_at l _ hse, getD_at l _ hsl]
            obtain ⟨u1, hu1⟩ : ∃ u, u = setBit s k := ⟨_, rfl⟩
            simp only [← hu1] at c1 i1 q1 hup
            obtain ⟨x0, hx0⟩ : ∃ x, x = l[s] := ⟨_, rfl⟩
            rw [← hx0] at c0 hup
            have hse2 : u1 < l.length := hu1 ▸ hse
            obtain ⟨x1, hx1⟩ : ∃ x, x = l[u1] := ⟨_, rfl⟩
            rw [← hx1] at c1 hup
            have pk := two_pow k 6 (by omega)
            have pk1 : (2 : Int) ^ k ≤ 64 := by simpa using pk.1
            have pk2 := pk.2
            have wk : IntKind.i64.wrap ((2 : Int) ^ k) = 2 ^ k := by rw [IntKind.wrap_i64]; omega
            have hk5 : k < 5 := by omega
            have HUP := Lib.hid hup
            clear hup hx0 hx1 pk hse
            by_cases hneg : x1 < x0
            · have hu : upB l s k = false := by rw [HUP.out, decide_eq_true (by omega)]; rfl
              have hbad : incB N l = false := by rw [HX.out]; exact allTo_false hsl (by rw [HFS.out]; exact allTo_false hkn hu)
              have HBAD := Lib.hid hbad
              clear hu hbad hu1
              go_wp2_with fail
              go_quiet (fail)
              go_wp2
              go_ret
              exact ⟨ret_bool HBAD.out.symm, B2.drewN' _⟩
            · have hu : upB l s k = true := by rw [HUP.out, decide_eq_false (by omega)]; rfl
              have HU := Lib.hid hu
              clear hu hu1
              go_wp2_with fail
              go_quiet (fail)
              go_wp2
              go_roundw
              case rel => exact ⟨k + 1, by omega, by go_num, allTo_succ H2.out HU.out, B2.drewN' _, K2.drewN _⟩
              case measure => simp [intOf]; omega
          · have hkN : k = N := by omega
            subst hkN
            go_wp2
            go_roundw
            case rel => exact ⟨s + 1, by omega, by go_num, allTo_succ H.out (by rw [HFS.out]; exact H2.out), B2, K2⟩
            case measure => simp [intOf]; omega
      · have hsl' : s = l.length := by omega
        subst hsl'
        go_wp2_with fail
        refine (isFunS_any N l _ _ (hv0.below B1 (Nat.le_refl _))).mono ?_
        rintro e w2 ⟨rfl, hb2⟩
        rw [HF.out]
        go_wp2
        go_ret
        exact ⟨ret_bool (by rw [HX.out, H.out]), B1.after hb2 B1.size⟩
end Go.Proofs.YtpaoiiiceekkkaaGreatDoor
end
