/- Covers. Families whose sets meet. Violations: what is computed. Increasing functions. -/
import Derived.Test.YtipejodijbjpcaaGreatDoorQ09
section
namespace Go.Proofs.YtipejodijbjpcaaGreatDoor
open Go.RowKit Go.G5

/-- the sets' elements together -/
def unionL (l : List Int) : Int := l.foldl ior 0
theorem union_bd (g : Nat) (l : List Int) (h : ∀ s ∈ l, 0 ≤ s ∧ s < 2 ^ g) : ∀ z, 0 ≤ z → z < 2 ^ g → 0 ≤ l.foldl ior z ∧ l.foldl ior z < 2 ^ g := by
  induction l with
  | nil => intro z h0 h1; exact ⟨h0, h1⟩
  | cons a l ih =>
    intro z h0 h1
    have ha := h a (by simp)
    have hz := ior_bd z a g h0 ha.1 h1 ha.2
    exact ih (fun s hs => h s (by simp [hs])) _ hz.1 hz.2

theorem groundOf_any (n : Int) (v : Value) (l : List Int) (w : World) (hv : Ints w v l) (h0 : 0 ≤ n) (h1 : n ≤ 40) :
    Calls Tryz.prog 226 #[.agg #[.int .i64 n, v]] w fun e w' => e = .returned (.int .i64 (2 ^ n.toNat - 1)) ∧ Below w.heap.size w w' := by
  obtain ⟨av, cv, rfl⟩ := hv.shape
  have h2 := two_pow n.toNat 40 (by omega)
  have h3 := h2.1
  have h4 := h2.2
  simp at h3
  clear h2
  go_enter Tryz.func226, Tryz.ntmps226
  go_wp2
  go_ret
  exact ⟨rfl, bl1 _ _⟩

def isCoverB (g : Int) (l x : List Int) : Bool := isFamB g l && x.all (has l) && (unionL x == 2 ^ g.toNat - 1)

theorem fam_mem {g : Int} {l : List Int} (h : isFamB g l = true) : ∀ s ∈ l, 0 ≤ s ∧ s < 64 := by
  obtain ⟨h0, h6, hs, _⟩ := famOk h
  intro s hm
  have := hs s hm
  have := pow_le64 h0 h6
  omega

end Go.Proofs.YtipejodijbjpcaaGreatDoor
end
section
namespace Go.Proofs.YtipejodijbjpcaaGreatDoor
open Go.RowKit Go.G5

def allTo (p : Nat → Bool) : Nat → Bool
  | 0 => true
  | k + 1 => allTo p k && p k
theorem allTo_false {p : Nat → Bool} {k n : Nat} (h : k < n) (hp : p k = false) : allTo p n = false := by
  induction n with
  | zero => omega
  | succ n ih =>
    rw [allTo]
    by_cases hk : k = n
    · rw [← hk, hp]; simp
    · rw [ih (by omega)]; rfl
theorem allTo_succ {p : Nat → Bool} {k : Nat} (h : allTo p k = true) (hp : p k = true) : allTo p (k + 1) = true := by rw [allTo, h, hp]; rfl
theorem getD_at (l : List Int) (k : Nat) (h : k < l.length) : l.getD k 0 = l[k] := by rw [List.getD_eq_getElem?_getD, List.getElem?_eq_getElem h, Option.getD_some]

def meetB (l : List Int) (s : Int) : Bool := l.all fun t => iand t s != 0
def interB (g : Int) (l : List Int) : Bool := isFamB g l && l.all (meetB l)
def meetS (l : List Int) : Bool := allTo (fun i => allTo (fun k => iand (l.getD i 0) (l.getD k 0) != 0) (i + 1)) l.length

set_option maxHeartbeats 400000 in
theorem meetsAll_any (l : List Int) (v : Value) (s : Int) (w : World) (hv : Ints w v l) (hm : ∀ x ∈ l, 0 ≤ x ∧ x < 64) (h0 : 0 ≤ s) (h1 : s < 64) :
    Calls Tryz.prog 151 #[v, .int .i64 s] w fun e w' => e = .returned (.bool (meetB l s)) ∧ w = w' := by
  obtain ⟨a, b, off, c, rfl, hlen, hix, hc, hb⟩ := hv.view Tryz.prog 22 3 Tryz.underlying22 intElem
  go_enter Tryz.func151, Tryz.ntmps151
  go_wp2
  go_loop [9] (fun i => ∃ k : Nat, k ≤ l.length ∧ i = .int .i64 k ∧ (l.take k).all (fun t => iand t s != 0) = true) (fun i => l.length - (intOf i).toNat)
  case atStart => exact ⟨0, Nat.zero_le _, rfl, by simp⟩
  case round =>
    obtain ⟨k, hk, rfl, hall⟩ := hrel
    have H := Lib.hid hall
    clear hall
    by_cases hlt : k < l.length
    · have hlk := hm _ (List.getElem_mem hlt)
      have hA := iand_is hlk.1 (show l[k] < 4611686018427387904 by omega) h0 (by omega)
      by_cases hz : iand l[k] s = 0
      · have ht : (iand l[k] s == 0) = true := by simp [hz]
        have hp : (iand l[k] s != 0) = false := by simp [hz]
        have HP := Lib.hid hp
        clear hz hp
        go_wp2
        go_ret
        exact ⟨ret_bool (by unfold meetB; rw [all_false_at _ _ _ hlt HP.out]), rfl⟩
      · have ht : (iand l[k] s == 0) = false := by simp [hz]
        have hp : (iand l[k] s != 0) = true := by simp [hz]
        have HP := Lib.hid hp
        clear hz hp
        go_wp2
        go_round
        case rel => exact ⟨k + 1, by omega, by go_num, by rw [all_take_succ _ _ _ hlt, H.out, HP.out]; rfl⟩
        case measure => simp [intOf]; omega
    · go_wp2
      go_ret
      exact ⟨ret_bool (by unfold meetB; rw [← all_of_take _ l k (by omega), H.out]), rfl⟩

set_option maxHeartbeats 1000000 in
theorem isInter_any (g : Int) (l : List Int) (v : Value) (w : World) (hv : Ints w v l) :
    Calls Tryz.prog 102 #[.agg #[.int .i64 g, v]] w fun e w' => e = .returned (.bool (interB g l)) ∧ Below w.heap.size w w' := by
  obtain ⟨a, b, off, c, rfl, hlen, hix, hc, hb⟩ := hv.view Tryz.prog 22 3 Tryz.underlying22 intElem
  have X0 := Box2.new w g (.slice a l.length c) 27
  go_enter Tryz.func102, Tryz.ntmps102
  go_wp2_with fail
  refine (isFamI_any g l _ _ (hv.alloc _)).mono ?_
  rintro e w1 ⟨rfl, hb1⟩
  obtain ⟨d0, d1, B1, z1⟩ := X0.after hb1
  have hc1 := cells_below hc hb B1 (Nat.le_refl _)
  have hv1 := hv.below B1 (Nat.le_refl _)
  clear hc hb hb1 X0
  cases hf : isFamB g l with
  | false =>
    have hx : interB g l = false := by unfold interB; rw [hf]; rfl
    have HX := Lib.hid hx
    clear hx
    go_wp2
    go_ret
    exact ⟨by rw [HX.out]; rfl, B1⟩
  | true =>
    have hm := fam_mem hf
    have hx : interB g l = l.all (meetB l) := by unfold interB; rw [hf]; rfl
    have HX := Lib.hid hx
    have HM := Lib.hid hm
    clear hx hm
    go_wp2_with fail
    go_loop [11] (fun i => ∃ k : Nat, k ≤ l.length ∧ i = .int .i64 k ∧ (l.take k).all (meetB l) = true) (fun i => l.length - (intOf i).toNat)
    case atStart => exact ⟨0, Nat.zero_le _, rfl, by simp⟩
    case round =>
      obtain ⟨k, hk, rfl, hall⟩ := hrel
      have H := Lib.hid hall
      clear hall
      by_cases hlt : k < l.length
      · have hlk := HM.out _ (List.getElem_mem hlt)
        have hcl := meetsAll_any l (.slice a l.length c) l[k] w1 hv1 HM.out hlk.1 hlk.2
        cases hh : meetB l l[k] with
        | true =>
          rw [hh] at hcl
          go_wp2_with (go_at_call 151; refine hcl.mono ?_; rintro e w' ⟨rfl, rfl⟩)
          go_round
          case rel => exact ⟨k + 1, by omega, by go_num, by rw [all_take_succ _ _ _ hlt, H.out, hh]; rfl⟩
          case measure => simp [intOf]; omega
        | false =>
          rw [hh] at hcl
          go_wp2_with (go_at_call 151; refine hcl.mono ?_; rintro e w' ⟨rfl, rfl⟩)
          go_ret
          exact ⟨ret_bool (by rw [HX.out, all_false_at _ _ _ hlt hh]), B1⟩
      · go_wp2
        go_ret
        exact ⟨ret_bool (by rw [HX.out, ← all_of_take _ l k (by omega), H.out]), B1⟩

set_option maxHeartbeats 1000000 in
theorem l23Meets_any (l : List Int) (v : Value) (w : World) (hv : Ints w v l) (hm : ∀ x ∈ l, 0 ≤ x ∧ x < 64) :
    Calls Tryz.prog 222 #[v] w fun e w' => e = .returned (.bool (meetS l)) ∧ Below w.heap.size w w' := by
  obtain ⟨a, b, off, c, rfl, hlen, hix, hc, hb⟩ := hv.view Tryz.prog 22 3 Tryz.underlying22 intElem
  have HM := Lib.hid hm
  clear hm
  go_enter Tryz.func222, Tryz.ntmps222
  go_wp2
  go_loopw [3] (fun i wr => ∃ k m : Nat, k ≤ l.length ∧ i = .int .i64 k ∧ wr = w.drewN m ∧ allTo (fun i => allTo (fun k => iand (l.getD i 0) (l.getD k 0) != 0) (i + 1)) k = true) (fun i _ => l.length - (intOf i).toNat)
  case atStart => exact ⟨0, 0, Nat.zero_le _, rfl, rfl, rfl⟩
  case round =>
    obtain ⟨k, m, hk, rfl, rfl, hall⟩ := hrel
    have H := Lib.hid hall
    clear hall
    by_cases hlt : k < l.length
    · have hlk := HM.out _ (List.getElem_mem hlt)
      go_wp2
      go_loopw [4] (fun j wr => ∃ q n : Nat, q ≤ k + 1 ∧ j = .int .i64 q ∧ wr = w.drewN n ∧ allTo (fun q => iand (l.getD k 0) (l.getD q 0) != 0) q = true) (fun j _ => k + 1 - (intOf j).toNat)
      case atStart => exact ⟨0, m, by omega, rfl, rfl, rfl⟩
      case round =>
        obtain ⟨q, n, hq, rfl, rfl, hin⟩ := hrel
        have HI := Lib.hid hin
        clear hin
        by_cases hle : q ≤ k
        · have hql : q < l.length := by omega
          have hlq := HM.out _ (List.getElem_mem hql)
          have hA := iand_is hlk.1 (show l[k] < 4611686018427387904 by omega) hlq.1 (show l[q] < 4611686018427387904 by omega)
          by_cases hz : iand l[k] l[q] = 0
          · have ht : (iand l[k] l[q] == 0) = true := by simp [hz]
            have hp : (iand (l.getD k 0) (l.getD q 0) != 0) = false := by rw [getD_at l k hlt, getD_at l q hql]; simp [hz]
            have HP := Lib.hid hp
            clear hz hp
            go_wp2
            go_quiet (fail)
            go_wp2
            go_ret
            exact ⟨ret_bool (allTo_false (p := fun i => allTo (fun k => iand (l.getD i 0) (l.getD k 0) != 0) (i + 1)) hlt (allTo_false (p := fun q => iand (l.getD k 0) (l.getD q 0) != 0) (show q < k + 1 by omega) HP.out)).symm, ((Below.refl _ _).drewN' _).drewN' _⟩
          · have ht : (iand l[k] l[q] == 0) = false := by simp [hz]
            have hp : (iand (l.getD k 0) (l.getD q 0) != 0) = true := by rw [getD_at l k hlt, getD_at l q hql]; simp [hz]
            have HP := Lib.hid hp
            clear hz hp
            go_wp2
            go_quiet (fail)
            go_wp2
            go_roundw
            case rel => exact ⟨q + 1, n + nq, by omega, by go_num, by simp, allTo_succ HI.out HP.out⟩
            case measure => simp [intOf]; omega
        · go_wp2
          go_roundw
          case rel => exact ⟨k + 1, n, by omega, by go_num, rfl, allTo_succ H.out (by rw [show k + 1 = q by omega]; exact HI.out)⟩
          case measure => simp [intOf]; omega
    · go_wp2
      go_ret
      exact ⟨ret_bool (by unfold meetS; rw [show l.length = k by omega, H.out]), (Below.refl _ _).drewN' _⟩
end Go.Proofs.YtipejodijbjpcaaGreatDoor
end
section
namespace Go.Proofs.YtipejodijbjpcaaGreatDoor
open Go.RowKit Go.G5

def exL (l : List Int) (s i k : Nat) : Int := l.getD (setBit s i ||| setBit s k) 0 + l.getD s 0 - l.getD (setBit s i) 0 - l.getD (setBit s k) 0
def badB (l : List Int) (t : Tri) : Bool := decide (0 < exL l t.1 t.2.1 t.2.2)
def vstep (l : List Int) (a : Option Tri) (t : Tri) : Option Tri × Bool := if badB l t then (some t, false) else (a, a.isNone)
def violT (n : Nat) (l : List Int) : Option Tri := (runT (vstep l) (tri3 n (2 ^ n)) none).1
def violR (n : Int) (l : List Int) : Option Tri := if isFunB n l then violT n.toNat l else none
def violB (n : Int) (l : List Int) : Bool := (violR n l).isSome
def triL : Option Tri → List Int
  | none => []
  | some t => [(t.1 : Int), (t.2.1 : Int), (t.2.2 : Int)]
def violL (n : Int) (l : List Int) : List Int := triL (violR n l)
def subB (n : Int) (l : List Int) : Bool := isFunB n l && !violB n l
theorem or_again (s x y : Nat) : (s ||| x) ||| (s ||| y) = (s ||| x) ||| y := by
  apply Nat.eq_of_testBit_eq
  intro j
  simp only [Nat.testBit_or]
  cases s.testBit j <;> cases x.testBit j <;> cases y.testBit j <;> rfl
theorem setBit_or (s i k : Nat) : setBit s i ||| setBit s k = setBit (setBit s i) k := by unfold setBit; exact or_again s (2 ^ i) (2 ^ k)
theorem violL_len (n : Int) (l : List Int) : (violL n l).length ≤ 3 := by
  unfold violL
  cases violR n l <;> simp [triL]
theorem exL_bd (n : Nat) (l : List Int) (hl : l.length = 2 ^ n) (hb : ∀ k, (hk : k < l.length) → -1000 ≤ l[k] ∧ l[k] ≤ 1000) (s i k : Nat) (hs : s < 2 ^ n) (hi : i < n) (hk : k < n) : -4000 ≤ exL l s i k ∧ exL l s i k ≤ 4000 := by
  have h1 := setBit_lt s i n hs hi
  have h2 := setBit_lt s k n hs hk
  have h3 := setBit_lt (setBit s i) k n h1 hk
  rw [← setBit_or] at h3
  unfold exL
  rw [getD_at l _ (by omega), getD_at l _ (by omega), getD_at l _ (by omega), getD_at l _ (by omega)]
  have b1 := hb (setBit s i) (by omega)
  have b2 := hb (setBit s k) (by omega)
  have b3 := hb (setBit s i ||| setBit s k) (by omega)
  have b4 := hb s (by omega)
  omega
/-- a violation that is told is one -/
theorem viol_run (l : List Int) : ∀ (T : List Tri) (t : Tri), (runT (vstep l) T none).1 = some t → badB l t = true := by
  intro T
  induction T with
  | nil => intro t h; simp [runT] at h
  | cons u T ih =>
    intro t h
    rw [runT] at h
    by_cases hb : badB l u = true
    · have e : vstep l none u = (some u, false) := by unfold vstep; rw [if_pos hb]
      rw [e] at h
      simp at h
      rw [← h]; exact hb
    · have e : vstep l none u = (none, true) := by unfold vstep; rw [if_neg hb]; rfl
      rw [e] at h
      exact ih t h
end Go.Proofs.YtipejodijbjpcaaGreatDoor
end
section
namespace Go.Proofs.YtipejodijbjpcaaGreatDoor
open Go.RowKit Go.G5

def upB (l : List Int) (s e : Nat) : Bool := !decide (gainL l s e < 0)
def incB (n : Int) (l : List Int) : Bool := isFunB n l && allTo (fun s => allTo (upB l s) n.toNat) l.length
theorem fun_nat {n : Int} {l : List Int} (h : isFunB n l = true) : ∃ N : Nat, n = N ∧ N ≤ 5 ∧ l.length = 2 ^ N ∧ l.length ≤ 32 ∧ ∀ k, (hk : k < l.length) → -1000 ≤ l[k] ∧ l[k] ≤ 1000 := by
  obtain ⟨h0, h5, hlen, hlb⟩ := funOk h
  obtain ⟨N, rfl⟩ := Int.eq_ofNat_of_zero_le h0
  have hN5 : N ≤ 5 := by omega
  have hl2 : l.length = 2 ^ N := by
    have e2 : (N : Int).toNat = N := by omega
    rw [e2] at hlen
    exact_mod_cast hlen
  have p5 : (2 : Nat) ^ N ≤ 32 := Nat.pow_le_pow_right (n := 2) (by decide) hN5
  exact ⟨N, rfl, hN5, hl2, by omega, hlb⟩

set_option maxHeartbeats 2000000 in
set_option maxRecDepth 100000 in
theorem incI_any (n : Int) (l : List Int) (v : Value) (w : World) (hv : Ints w v l) :
    Calls Tryz.prog 381 #[.agg #[.int .i64 n, v]] w fun e w' => e = .returned (.bool (incB n l)) ∧ Below w.heap.size w w' := by
  have hv0 := hv
  obtain ⟨a, c, rfl⟩ := hv.shape
  have K0 := Blk.new w 32 #[.int .i64 n, .slice a l.length c]
  cases hf : isFunB n l with
  | false =>
    have hx : incB n l = false := by unfold incB; rw [hf]; rfl
    have HX := Lib.hid hx
    have HF := Lib.hid hf
    clear hx hf
    go_enter Tryz.func381, Tryz.ntmps381
    go_wp2_with (go_at_call 111; refine (isFunI_any n l _ _ (hv0.alloc _)).mono ?_; rintro e w1 ⟨rfl, hb1⟩; rw [HF.out])
    go_ret
    exact ⟨ret_bool HX.out.symm, (bl1 _ _).after hb1 (by simp)⟩
  | true =>
    obtain ⟨N, rfl, hN5, hl2, hl32, hlb⟩ := fun_nat hf
    have hx : incB N l = allTo (fun s => allTo (upB l s) N) l.length := by unfold incB; rw [hf]; simp
    obtain ⟨F, hF⟩ : ∃ F : Nat → Bool, F = fun s => allTo (upB l s) N := ⟨_, rfl⟩
    rw [← hF] at hx
    have HX := Lib.hid hx
    have HF := Lib.hid hf
    have HFF := Lib.hid hF
    have HLB := Lib.hid hlb
    have HL2 := Lib.hid hl2
    clear hx hf hF hlb hl2
    go_enter Tryz.func381, Tryz.ntmps381
    go_wp2_with fail
    refine (isFunI_any N l _ _ (hv0.alloc _)).mono ?_
    rintro e w1 ⟨rfl, hb1⟩
    rw [HF.out]
    have K1 := K0.keep hb1
    have B1 : Below w.heap.size w w1 := (bl1 _ _).after hb1 (by simp)
    have G1 := K1.cell
    clear K0 hb1
    go_wp2_with fail
    go_loopw [11] (fun i wr => ∃ s : Nat, s ≤ l.length ∧ i = .int .i64 s ∧ allTo F s = true ∧ Below w.heap.size w wr ∧ Blk wr w.heap.size 32 #[.int .i64 N, .slice a l.length c]) (fun i _ => l.length - (intOf i).toNat)
    case atStart => exact ⟨0, Nat.zero_le _, rfl, rfl, B1, K1⟩
    case round =>
      obtain ⟨s, hs, rfl, hall, B, K⟩ := hrel
      obtain ⟨wo, rfl⟩ : ∃ wo : World, wo = wr := ⟨_, rfl⟩
      have H := Lib.hid hall
      clear hall G1
      have G1 := K.cell
      by_cases hsl : s < l.length
      · have hFs : F s = allTo (upB l s) N := by rw [HFF.out]
        have HFS := Lib.hid hFs
        clear hFs
        go_wp2_with fail
        go_loopw [16] (fun i wr => ∃ k : Nat, k ≤ N ∧ i = .int .i64 k ∧ allTo (upB l s) k = true ∧ Below w.heap.size w wr ∧ Blk wr w.heap.size 32 #[.int .i64 N, .slice a l.length c]) (fun i _ => N - (intOf i).toNat)
        case atStart => exact ⟨0, Nat.zero_le _, rfl, rfl, B, K⟩
        case round =>
          obtain ⟨k, hk, rfl, hall, B2, K2⟩ := hrel
          obtain ⟨wi, rfl⟩ : ∃ wo : World, wo = wr := ⟨_, rfl⟩
          have H2 := Lib.hid hall
          clear hall G1
          have G1 := K2.cell
          by_cases hkn : k < N
          · have hse : setBit s k < l.length := by rw [HL2.out] at hsl ⊢; exact setBit_lt _ _ _ hsl hkn
            have hg := gain_any N l _ s k wi (hv0.below B2 (Nat.le_refl _)) (by omega) hsl (by omega) hse HLB.out
            have hup : upB l s k = !decide (gainL l s k < 0) := rfl
            obtain ⟨q, hq⟩ : ∃ q, q = gainL l s k := ⟨_, rfl⟩
            rw [← hq] at hg hup
            have HG := Lib.hid hg
            have HUP := Lib.hid hup
            clear hg hup hq
            by_cases hneg : q < 0
            · have hu : upB l s k = false := by rw [HUP.out, decide_eq_true hneg]; rfl
              have hbad : incB N l = false := by rw [HX.out]; exact allTo_false hsl (by rw [HFS.out]; exact allTo_false hkn hu)
              have HBAD := Lib.hid hbad
              clear hu hbad
              go_wp2_with (go_at_call 243; refine HG.out.mono ?_; rintro e w3 ⟨rfl, hb3⟩)
              go_ret
              exact ⟨ret_bool HBAD.out.symm, B2.after hb3 B2.size⟩
            · have hu : upB l s k = true := by rw [HUP.out, decide_eq_false hneg]; rfl
              have HU := Lib.hid hu
              clear hu
              go_wp2_with (go_at_call 243; refine HG.out.mono ?_; rintro e w3 ⟨rfl, hb3⟩)
              go_roundw
              case rel => exact ⟨k + 1, by omega, by go_num, allTo_succ H2.out HU.out, B2.after hb3 B2.size, K2.keep hb3⟩
              case measure => simp [intOf]; omega
          · have hkN : k = N := by omega
            subst hkN
            go_wp2
            go_roundw
            case rel => exact ⟨s + 1, by omega, by go_num, allTo_succ H.out (by rw [HFS.out]; exact H2.out), B2, K2⟩
            case measure => simp [intOf]; omega
      · have hsl' : s = l.length := by omega
        subst hsl'
        go_wp2
        go_ret
        exact ⟨ret_bool (by rw [HX.out, H.out]), B⟩
end Go.Proofs.YtipejodijbjpcaaGreatDoor
end
