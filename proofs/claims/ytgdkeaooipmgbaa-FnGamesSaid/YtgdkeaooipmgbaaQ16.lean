/- Counting families: the shared walks. Sets with pairs of elements outside of them, in order. Covers. Families whose sets meet. Violations: what is computed. Increasing functions. Increasing functions: the second program. The laws' own marks. Marks of values with several lists. -/
import Derived.Test.YtgdkeaooipmgbaaQ15
import Derived.Deep.Light
section
namespace Go.Proofs.Ytgdkeaooipmgbaa
open Go.RowKit Go.G5

def nbit (code s : Nat) : Bool := code / 2 ^ s % 2 == 1
theorem nbit_is (code s : Nat) : (ibit (code : Int) s == 1) = nbit code s := by
  unfold ibit nbit
  have h : ((code : Int) / 2 ^ s % 2) = ((code / 2 ^ s % 2 : Nat) : Int) := by push_cast; rfl
  rw [h]
  have : (code / 2 ^ s % 2) < 2 := Nat.mod_lt _ (by decide)
  rcases (show code / 2 ^ s % 2 = 0 ∨ code / 2 ^ s % 2 = 1 by omega) with h1 | h1 <;> rw [h1] <;> rfl
/-- the sets that are the bits of a number -/
def famOf (code : Nat) (k : Nat) : List Int := chosen (nbit code) k
theorem famOf_more (code k m : Nat) (h : code < 2 ^ k) : famOf code (k + m) = famOf code k := by
  induction m with
  | zero => rfl
  | succ m ih =>
    rw [← Nat.add_assoc, famOf, chosen_succ, if_neg, ← famOf, ih]
    have h1 : code < 2 ^ (k + m) := Nat.lt_of_lt_of_le h (Nat.pow_le_pow_right (by decide) (by omega))
    unfold nbit
    rw [Nat.div_eq_of_lt h1]; decide
theorem famOf_same (code k m : Nat) (h : code < 2 ^ k) (h' : code < 2 ^ m) : famOf code k = famOf code m := by
  rcases Nat.le_total k m with hkm | hkm
  · obtain ⟨d, rfl⟩ := Nat.exists_eq_add_of_le hkm
    exact (famOf_more code k d h).symm
  · obtain ⟨d, rfl⟩ := Nat.exists_eq_add_of_le hkm
    exact famOf_more code m d h'
/-- how many codes below k are wanted -/
def cntTo (Q : Nat → Bool) : Nat → Nat
  | 0 => 0
  | k + 1 => if Q k then cntTo Q k + 1 else cntTo Q k
theorem cntTo_le (Q : Nat → Bool) (k : Nat) : cntTo Q k ≤ k := by
  induction k with
  | zero => exact Nat.le_refl _
  | succ k ih => rw [cntTo]; split <;> omega

theorem famOf_bd (code k : Nat) : ∀ x ∈ famOf code k, 0 ≤ x ∧ x < (k : Int) := by
  intro x hx
  unfold famOf chosen at hx
  rw [List.mem_map] at hx
  obtain ⟨s, hs, rfl⟩ := hx
  rw [List.mem_filter, List.mem_range] at hs
  simp only [Int.ofNat_eq_natCast]
  omega
theorem famOf32 (code k : Nat) (h : code < 2 ^ k) (hk : k ≤ 32) : famOf code 32 = famOf code k :=
  famOf_same code 32 k (Nat.lt_of_lt_of_le h (Nat.pow_le_pow_right (by decide) hk)) h
def cntOf (Q : Int → Nat → Bool) (n : Int) : Int := if inB n 0 3 then (cntTo (Q n) (2 ^ 2 ^ n.toNat) : Int) else -1
theorem in03 {n : Int} (h : inB n 0 3 = true) : n = 0 ∨ n = 1 ∨ n = 2 ∨ n = 3 := by have := inB_true.1 h; omega
end Go.Proofs.Ytgdkeaooipmgbaa
end
section
namespace Go.Proofs.Ytgdkeaooipmgbaa
open Go.RowKit Go.G5

abbrev Tri := Nat × Nat × Nat
/-- those of a set and a first element with the second one below k -/
def tri (s i : Nat) : Nat → List Tri
  | 0 => []
  | k + 1 => tri s i k ++ (if (decide (i < k) && (!nbit s i && !nbit s k)) then [(s, i, k)] else [])
/-- those of a set with the first element below i -/
def tri2 (n s : Nat) : Nat → List Tri
  | 0 => []
  | i + 1 => tri2 n s i ++ tri s i n
/-- those of the sets below s -/
def tri3 (n : Nat) : Nat → List Tri
  | 0 => []
  | s + 1 => tri3 n s ++ tri2 n s n
theorem tri_start (s i : Nat) : ∀ k, k ≤ i + 1 → tri s i k = [] := by
  intro k
  induction k with
  | zero => intro _; rfl
  | succ k ih =>
    intro hk
    rw [tri, ih (by omega), decide_eq_false (by omega)]; rfl
theorem tri_in (s i k m : Nat) (h : k ≤ m) : ∃ r, tri s i m = tri s i k ++ r := by
  induction m with
  | zero =>
    have : k = 0 := by omega
    subst this; exact ⟨[], rfl⟩
  | succ m ih =>
    by_cases hk : k = m + 1
    · subst hk; exact ⟨[], by simp⟩
    · obtain ⟨r, hr⟩ := ih (by omega)
      exact ⟨r ++ _, by rw [tri, hr, List.append_assoc]⟩
theorem tri2_in (n s i m : Nat) (h : i ≤ m) : ∃ r, tri2 n s m = tri2 n s i ++ r := by
  induction m with
  | zero =>
    have : i = 0 := by omega
    subst this; exact ⟨[], rfl⟩
  | succ m ih =>
    by_cases hk : i = m + 1
    · subst hk; exact ⟨[], by simp⟩
    · obtain ⟨r, hr⟩ := ih (by omega)
      exact ⟨r ++ _, by rw [tri2, hr, List.append_assoc]⟩
theorem tri3_in (n s m : Nat) (h : s ≤ m) : ∃ r, tri3 n m = tri3 n s ++ r := by
  induction m with
  | zero =>
    have : s = 0 := by omega
    subst this; exact ⟨[], rfl⟩
  | succ m ih =>
    by_cases hk : s = m + 1
    · subst hk; exact ⟨[], by simp⟩
    · obtain ⟨r, hr⟩ := ih (by omega)
      exact ⟨r ++ _, by rw [tri3, hr, List.append_assoc]⟩
/-- what stands ahead of a place, with the place, stands at the front of all -/
theorem tri_front (n N s i k : Nat) (hs : s < N) (hi : i < n) (hk : k ≤ n) : ∃ r, tri3 n N = ((tri3 n s ++ tri2 n s i) ++ tri s i k) ++ r := by
  obtain ⟨r3, h3⟩ := tri3_in n (s + 1) N hs
  obtain ⟨r2, h2⟩ := tri2_in n s (i + 1) n hi
  obtain ⟨r1, h1⟩ := tri_in s i k n hk
  rw [tri3] at h3
  rw [tri2] at h2
  exact ⟨r1 ++ (r2 ++ r3), by rw [h3, h2, h1]; simp [List.append_assoc]⟩
theorem tri_mem (s i k : Nat) : ∀ t ∈ tri s i k, t.1 = s ∧ t.2.1 = i ∧ i < t.2.2 ∧ t.2.2 < k := by
  induction k with
  | zero => intro t h; cases h
  | succ k ih =>
    intro t h
    rw [tri, List.mem_append] at h
    rcases h with h | h
    · have := ih t h; omega
    · split at h
      · rename_i hc
        rw [List.mem_singleton] at h
        rw [Bool.and_eq_true] at hc
        have := of_decide_eq_true hc.1
        subst h; simp; omega
      · cases h
theorem tri2_mem (n s i : Nat) : ∀ t ∈ tri2 n s i, t.1 = s ∧ t.2.1 < i ∧ t.2.1 < t.2.2 ∧ t.2.2 < n := by
  induction i with
  | zero => intro t h; cases h
  | succ i ih =>
    intro t h
    rw [tri2, List.mem_append] at h
    rcases h with h | h
    · have := ih t h; omega
    · have := tri_mem s i n t h; omega
theorem tri3_mem (n s : Nat) : ∀ t ∈ tri3 n s, t.1 < s ∧ t.2.1 < t.2.2 ∧ t.2.2 < n := by
  induction s with
  | zero => intro t h; cases h
  | succ s ih =>
    intro t h
    rw [tri3, List.mem_append] at h
    rcases h with h | h
    · have := ih t h; omega
    · have := tri2_mem n s n t h; omega

/-- a walk over triples that may stop -/
def runT {α : Type} (step : α → Tri → α × Bool) : List Tri → α → α × Bool
  | [], a => (a, true)
  | t :: r, a => if (step a t).2 then runT step r (step a t).1 else ((step a t).1, false)
theorem runT_append {α : Type} (step : α → Tri → α × Bool) (x y : List Tri) (a : α) : runT step (x ++ y) a = if (runT step x a).2 then runT step y (runT step x a).1 else runT step x a := by
  induction x generalizing a with
  | nil => rfl
  | cons t x ih =>
    rw [List.cons_append, runT, runT]
    split
    · exact ih _
    · rename_i h; simp
theorem runT_go {α : Type} {step : α → Tri → α × Bool} {x y : List Tri} {a b : α} (h : runT step x a = (b, true)) : runT step (x ++ y) a = runT step y b := by rw [runT_append, h]; rfl
theorem runT_stop {α : Type} {step : α → Tri → α × Bool} {x y : List Tri} {a b : α} (h : runT step x a = (b, false)) : runT step (x ++ y) a = (b, false) := by rw [runT_append, h]; rfl
theorem runT_one {α : Type} (step : α → Tri → α × Bool) (t : Tri) (a : α) : runT step [t] a = step a t := by
  rw [runT]
  split
  · rename_i h; rw [runT]; ext <;> simp [h]
  · rename_i h; ext <;> simp_all
end Go.Proofs.Ytgdkeaooipmgbaa
end
section
namespace Go.Proofs.Ytgdkeaooipmgbaa
open Go.RowKit Go.G5

/-- the sets' elements together -/
def unionL (l : List Int) : Int := l.foldl ior 0
theorem union_bd (g : Nat) (l : List Int) (h : ∀ s ∈ l, 0 ≤ s ∧ s < 2 ^ g) : ∀ z, 0 ≤ z → z < 2 ^ g → 0 ≤ l.foldl ior z ∧ l.foldl ior z < 2 ^ g := by
  induction l with
  | nil => intro z h0 h1; exact ⟨h0, h1⟩
  | cons a l ih =>
    intro z h0 h1
    have ha := h a (by simp)
    have hz := ior_bd z a g h0 ha.1 h1 ha.2
    exact ih (fun s hs => h s (by simp [hs])) _ hz.1 hz.2

def isCoverB (g : Int) (l x : List Int) : Bool := isFamB g l && x.all (has l) && (unionL x == 2 ^ g.toNat - 1)

theorem fam_mem {g : Int} {l : List Int} (h : isFamB g l = true) : ∀ s ∈ l, 0 ≤ s ∧ s < 64 := by
  obtain ⟨h0, h6, hs, _⟩ := famOk h
  intro s hm
  have := hs s hm
  have := pow_le64 h0 h6
  omega

end Go.Proofs.Ytgdkeaooipmgbaa
end
section
namespace Go.Proofs.Ytgdkeaooipmgbaa
open Go.RowKit Go.G5

def allTo (p : Nat → Bool) : Nat → Bool
  | 0 => true
  | k + 1 => allTo p k && p k
theorem allTo_false {p : Nat → Bool} {k n : Nat} (h : k < n) (hp : p k = false) : allTo p n = false := by
  induction n with
  | zero => omega
  | succ n ih =>
    rw [allTo]
    by_cases hk : k = n
    · rw [← hk, hp]; simp
    · rw [ih (by omega)]; rfl
theorem allTo_succ {p : Nat → Bool} {k : Nat} (h : allTo p k = true) (hp : p k = true) : allTo p (k + 1) = true := by rw [allTo, h, hp]; rfl
theorem getD_at (l : List Int) (k : Nat) (h : k < l.length) : l.getD k 0 = l[k] := by rw [List.getD_eq_getElem?_getD, List.getElem?_eq_getElem h, Option.getD_some]

def meetB (l : List Int) (s : Int) : Bool := l.all fun t => iand t s != 0
def interB (g : Int) (l : List Int) : Bool := isFamB g l && l.all (meetB l)
def meetS (l : List Int) : Bool := allTo (fun i => allTo (fun k => iand (l.getD i 0) (l.getD k 0) != 0) (i + 1)) l.length

end Go.Proofs.Ytgdkeaooipmgbaa
end
section
namespace Go.Proofs.Ytgdkeaooipmgbaa
open Go.RowKit Go.G5

def exL (l : List Int) (s i k : Nat) : Int := l.getD (setBit s i ||| setBit s k) 0 + l.getD s 0 - l.getD (setBit s i) 0 - l.getD (setBit s k) 0
def badB (l : List Int) (t : Tri) : Bool := decide (0 < exL l t.1 t.2.1 t.2.2)
def vstep (l : List Int) (a : Option Tri) (t : Tri) : Option Tri × Bool := if badB l t then (some t, false) else (a, a.isNone)
def violT (n : Nat) (l : List Int) : Option Tri := (runT (vstep l) (tri3 n (2 ^ n)) none).1
def violR (n : Int) (l : List Int) : Option Tri := if isFunB n l then violT n.toNat l else none
def violB (n : Int) (l : List Int) : Bool := (violR n l).isSome
def triL : Option Tri → List Int
  | none => []
  | some t => [(t.1 : Int), (t.2.1 : Int), (t.2.2 : Int)]
def violL (n : Int) (l : List Int) : List Int := triL (violR n l)
def subB (n : Int) (l : List Int) : Bool := isFunB n l && !violB n l
theorem or_again (s x y : Nat) : (s ||| x) ||| (s ||| y) = (s ||| x) ||| y := by
  apply Nat.eq_of_testBit_eq
  intro j
  simp only [Nat.testBit_or]
  cases s.testBit j <;> cases x.testBit j <;> cases y.testBit j <;> rfl
theorem setBit_or (s i k : Nat) : setBit s i ||| setBit s k = setBit (setBit s i) k := by unfold setBit; exact or_again s (2 ^ i) (2 ^ k)
theorem violL_len (n : Int) (l : List Int) : (violL n l).length ≤ 3 := by
  unfold violL
  cases violR n l <;> simp [triL]
theorem exL_bd (n : Nat) (l : List Int) (hl : l.length = 2 ^ n) (hb : ∀ k, (hk : k < l.length) → -1000 ≤ l[k] ∧ l[k] ≤ 1000) (s i k : Nat) (hs : s < 2 ^ n) (hi : i < n) (hk : k < n) : -4000 ≤ exL l s i k ∧ exL l s i k ≤ 4000 := by
  have h1 := setBit_lt s i n hs hi
  have h2 := setBit_lt s k n hs hk
  have h3 := setBit_lt (setBit s i) k n h1 hk
  rw [← setBit_or] at h3
  unfold exL
  rw [getD_at l _ (by omega), getD_at l _ (by omega), getD_at l _ (by omega), getD_at l _ (by omega)]
  have b1 := hb (setBit s i) (by omega)
  have b2 := hb (setBit s k) (by omega)
  have b3 := hb (setBit s i ||| setBit s k) (by omega)
  have b4 := hb s (by omega)
  omega
/-- a violation that is told is one -/
theorem viol_run (l : List Int) : ∀ (T : List Tri) (t : Tri), (runT (vstep l) T none).1 = some t → badB l t = true := by
  intro T
  induction T with
  | nil => intro t h; simp [runT] at h
  | cons u T ih =>
    intro t h
    rw [runT] at h
    by_cases hb : badB l u = true
    · have e : vstep l none u = (some u, false) := by unfold vstep; rw [if_pos hb]
      rw [e] at h
      simp at h
      rw [← h]; exact hb
    · have e : vstep l none u = (none, true) := by unfold vstep; rw [if_neg hb]; rfl
      rw [e] at h
      exact ih t h
end Go.Proofs.Ytgdkeaooipmgbaa
end
section
namespace Go.Proofs.Ytgdkeaooipmgbaa
open Go.RowKit Go.G5

def upB (l : List Int) (s e : Nat) : Bool := !decide (gainL l s e < 0)
def incB (n : Int) (l : List Int) : Bool := isFunB n l && allTo (fun s => allTo (upB l s) n.toNat) l.length
theorem fun_nat {n : Int} {l : List Int} (h : isFunB n l = true) : ∃ N : Nat, n = N ∧ N ≤ 5 ∧ l.length = 2 ^ N ∧ l.length ≤ 32 ∧ ∀ k, (hk : k < l.length) → -1000 ≤ l[k] ∧ l[k] ≤ 1000 := by
  obtain ⟨h0, h5, hlen, hlb⟩ := funOk h
  obtain ⟨N, rfl⟩ := Int.eq_ofNat_of_zero_le h0
  have hN5 : N ≤ 5 := by omega
  have hl2 : l.length = 2 ^ N := by
    have e2 : (N : Int).toNat = N := by omega
    rw [e2] at hlen
    exact_mod_cast hlen
  have p5 : (2 : Nat) ^ N ≤ 32 := Nat.pow_le_pow_right (n := 2) (by decide) hN5
  exact ⟨N, rfl, hN5, hl2, by omega, hlb⟩

set_option maxHeartbeats 2000000 in
set_option maxRecDepth 100000 in
theorem incI_any (n : Int) (l : List Int) (v : Value) (w : World) (hv : Ints w v l) :
    Calls Try.prog 18 #[.agg #[.int .i64 n, v]] w fun e w' => e = .returned (.bool (incB n l)) ∧ Below w.heap.size w w' := by
  have hv0 := hv
  obtain ⟨a, c, rfl⟩ := hv.shape
  have K0 := Blk.new w 26 #[.int .i64 n, .slice a l.length c]
  cases hf : isFunB n l with
  | false =>
    have hx : incB n l = false := by unfold incB; rw [hf]; rfl
    have HX := Lib.hid hx
    have HF := Lib.hid hf
    clear hx hf
    go_enter Try.func18, Try.ntmps18
    go_wp2_with (go_at_call 35; refine (isFunI_any n l _ _ (hv0.alloc _)).mono ?_; rintro e w1 ⟨rfl, hb1⟩; rw [HF.out])
    go_ret
    exact ⟨ret_bool HX.out.symm, (bl1 _ _).after hb1 (by simp)⟩
  | true =>
    obtain ⟨N, rfl, hN5, hl2, hl32, hlb⟩ := fun_nat hf
    have hx : incB N l = allTo (fun s => allTo (upB l s) N) l.length := by unfold incB; rw [hf]; simp
    obtain ⟨F, hF⟩ : ∃ F : Nat → Bool, F = fun s => allTo (upB l s) N := ⟨_, rfl⟩
    rw [← hF] at hx
    have HX := Lib.hid hx
    have HF := Lib.hid hf
    have HFF := Lib.hid hF
    have HLB := Lib.hid hlb
    have HL2 := Lib.hid hl2
    clear hx hf hF hlb hl2
    go_enter Try.func18, Try.ntmps18
    go_wp2_with fail
    refine (isFunI_any N l _ _ (hv0.alloc _)).mono ?_
    rintro e w1 ⟨rfl, hb1⟩
    rw [HF.out]
    have K1 := K0.keep hb1
    have B1 : Below w.heap.size w w1 := (bl1 _ _).after hb1 (by simp)
    have G1 := K1.cell
    clear K0 hb1
    go_wp2_with fail
    go_loopw [11] (fun i wr => ∃ s : Nat, s ≤ l.length ∧ i = .int .i64 s ∧ allTo F s = true ∧ Below w.heap.size w wr ∧ Blk wr w.heap.size 26 #[.int .i64 N, .slice a l.length c]) (fun i _ => l.length - (intOf i).toNat)
    case atStart => exact ⟨0, Nat.zero_le _, rfl, rfl, B1, K1⟩
    case round =>
      obtain ⟨s, hs, rfl, hall, B, K⟩ := hrel
      obtain ⟨wo, rfl⟩ : ∃ wo : World, wo = wr := ⟨_, rfl⟩
      have H := Lib.hid hall
      clear hall G1
      have G1 := K.cell
      by_cases hsl : s < l.length
      · have hFs : F s = allTo (upB l s) N := by rw [HFF.out]
        have HFS := Lib.hid hFs
        clear hFs
        go_wp2_with fail
        go_loopw [16] (fun i wr => ∃ k : Nat, k ≤ N ∧ i = .int .i64 k ∧ allTo (upB l s) k = true ∧ Below w.heap.size w wr ∧ Blk wr w.heap.size 26 #[.int .i64 N, .slice a l.length c]) (fun i _ => N - (intOf i).toNat)
        case atStart => exact ⟨0, Nat.zero_le _, rfl, rfl, B, K⟩
        case round =>
          obtain ⟨k, hk, rfl, hall, B2, K2⟩ := hrel
          obtain ⟨wi, rfl⟩ : ∃ wo : World, wo = wr := ⟨_, rfl⟩
          have H2 := Lib.hid hall
          clear hall G1
          have G1 := K2.cell
          by_cases hkn : k < N
          · have hse : setBit s k < l.length := by rw [HL2.out] at hsl ⊢; exact setBit_lt _ _ _ hsl hkn
            have hg := gain_any N l _ s k wi (hv0.below B2 (Nat.le_refl _)) (by omega) hsl (by omega) hse HLB.out
            have hup : upB l s k = !decide (gainL l s k < 0) := rfl
            obtain ⟨q, hq⟩ : ∃ q, q = gainL l s k := ⟨_, rfl⟩
            rw [← hq] at hg hup
            have HG := Lib.hid hg
            have HUP := Lib.hid hup
            clear hg hup hq
            by_cases hneg : q < 0
            · have hu : upB l s k = false := by rw [HUP.out, decide_eq_true hneg]; rfl
              have hbad : incB N l = false := by rw [HX.out]; exact allTo_false hsl (by rw [HFS.out]; exact allTo_false hkn hu)
              have HBAD := Lib.hid hbad
              clear hu hbad
              go_wp2_with (go_at_call 48; refine HG.out.mono ?_; rintro e w3 ⟨rfl, hb3⟩)
              go_ret
              exact ⟨ret_bool HBAD.out.symm, B2.after hb3 B2.size⟩
            · have hu : upB l s k = true := by rw [HUP.out, decide_eq_false hneg]; rfl
              have HU := Lib.hid hu
              clear hu
              go_wp2_with (go_at_call 48; refine HG.out.mono ?_; rintro e w3 ⟨rfl, hb3⟩)
              go_roundw
              case rel => exact ⟨k + 1, by omega, by go_num, allTo_succ H2.out HU.out, B2.after hb3 B2.size, K2.keep hb3⟩
              case measure => simp [intOf]; omega
          · have hkN : k = N := by omega
            subst hkN
            go_wp2
            go_roundw
            case rel => exact ⟨s + 1, by omega, by go_num, allTo_succ H.out (by rw [HFS.out]; exact H2.out), B2, K2⟩
            case measure => simp [intOf]; omega
      · have hsl' : s = l.length := by omega
        subst hsl'
        go_wp2
        go_ret
        exact ⟨ret_bool (by rw [HX.out, H.out]), B⟩
end Go.Proofs.Ytgdkeaooipmgbaa
end
section
namespace Go.Proofs.Ytgdkeaooipmgbaa
open Go.RowKit Go.G5

end Go.Proofs.Ytgdkeaooipmgbaa
end
section
namespace Go.Proofs.Ytgdkeaooipmgbaa
open Go.RowKit Go.G5

def ramp (k : Int) : Nat → List Int
  | 0 => []
  | n + 1 => k :: ramp (k + 1) n
theorem ramp_len (n : Nat) : ∀ k : Int, (ramp k n).length = n := by
  induction n with
  | zero => intro k; rfl
  | succ n ih => intro k; simp [ramp, ih]
theorem ramp_get (n : Nat) : ∀ (k : Int) (j : Nat) (h : j < (ramp k n).length), (ramp k n)[j] = k + j := by
  induction n with
  | zero => intro k j h; simp [ramp] at h
  | succ n ih =>
    intro k j h
    cases j with
    | zero => simp [ramp]
    | succ j =>
      simp only [ramp, List.getElem_cons_succ]
      rw [ih (k + 1) j (by simpa [ramp] using h)]
      push_cast; omega
theorem ramp_step (k : Int) (l : List Int) (j : Nat) (h : j < l.length) : (ramp k j ++ l.drop j).set j (k + j) = ramp k (j + 1) ++ l.drop (j + 1) := by
  apply List.ext_getElem
  · simp [ramp_len]; omega
  · intro i h1 h2
    simp only [List.length_set, List.length_append, ramp_len, List.length_drop] at h1 h2
    rw [List.getElem_set]
    by_cases hi : j = i
    · subst hi
      rw [if_pos rfl, List.getElem_append_left (by rw [ramp_len]; omega), ramp_get]
    · rw [if_neg hi]
      by_cases hij : i < j
      · rw [List.getElem_append_left (by rw [ramp_len]; omega), List.getElem_append_left (by rw [ramp_len]; omega), ramp_get, ramp_get]
      · rw [List.getElem_append_right (by rw [ramp_len]; omega), List.getElem_append_right (by rw [ramp_len]; omega)]
        simp only [ramp_len, List.getElem_drop]
        congr 1; omega

theorem ramp_inR (k : Int) (n : Nat) (h0 : 0 ≤ k) (h1 : k + n ≤ 9223372036854775807) : ∀ x ∈ ramp k n, InR x := by
  intro x hx
  obtain ⟨j, hj, rfl⟩ := List.getElem_of_mem hx
  rw [ramp_get]
  rw [ramp_len] at hj
  exact ⟨by omega, by omega⟩

end Go.Proofs.Ytgdkeaooipmgbaa
end
section
namespace Go.G5
open Go Go.RowKit
/-- w' is w with new blocks and changes to blocks of P alone -/
structure GrownIn (w w' : World) (P : Nat → Prop) : Prop where
  os : w'.os = w.os
  tape : w'.tape = w.tape
  output : w'.output = w.output
  size : w.heap.size ≤ w'.heap.size
  block : ∀ b, b < w.heap.size → ¬ P b → w'.heap[b]? = w.heap[b]?
section
variable {w w' w'' : World} {P : Nat → Prop}
theorem GrownIn.refl (w : World) (P : Nat → Prop) : GrownIn w w P := ⟨rfl, rfl, rfl, Nat.le_refl _, fun _ _ _ => rfl⟩
theorem GrownIn.trans (h : GrownIn w w' P) (k : GrownIn w' w'' P) : GrownIn w w'' P :=
  ⟨k.os.trans h.os, k.tape.trans h.tape, k.output.trans h.output, Nat.le_trans h.size k.size, fun b hb hr => (k.block b (Nat.lt_of_lt_of_le hb h.size) hr).trans (h.block b hb hr)⟩
theorem GrownIn.of_row {row : Option Nat} (h : w.grownBy w' row) (hP : ∀ k, row = some k → P k) : GrownIn w w' P := ⟨h.os, h.tape, h.output, h.size, fun b hb hn => h.block b hb (fun e => hn (hP b e.symm))⟩
theorem GrownIn.of_below (h : Below w.heap.size w w') : GrownIn w w' P := ⟨h.os, h.tape, h.output, h.size, fun b hb _ => h.block b hb⟩
theorem Blk.growIn {g : Nat} {t : TypeId} {cs : Array Value} (h : Blk w g t cs) (hg : GrownIn w w' P) (hn : ¬ P g) : Blk w' g t cs := (hg.block g h.lt hn).trans h
theorem OwnW.growIn {E : TypeId} {B : Nat} {v : Value} {l : List Int} (h : OwnW E B w v l) (hg : GrownIn w w' P) (hn : ∀ k, v.ownBlock = some k → ¬ P k) : OwnW E B w' v l := by
  refine ⟨h.1, ?_⟩
  rcases h.2 with h1 | ⟨g, cap, cur, rfl, hBg, hh, r⟩
  · exact .inl h1
  · refine .inr ⟨g, cap, cur, rfl, hBg, ?_, r⟩
    rw [hg.block g (Array.getElem?_eq_some_iff.1 hh).1 (hn g rfl)]
    exact hh
theorem Below.growIn {B : Nat} {a : World} (h : Below B a w) (hg : GrownIn w w' P) (hB : B ≤ w.heap.size) (hn : ∀ k, P k → B ≤ k) : Below B a w' :=
  ⟨hg.os.trans h.os, hg.tape.trans h.tape, hg.output.trans h.output, Nat.le_trans h.size hg.size, fun b hb => (hg.block b (by omega) (fun hp => by have := hn b hp; omega)).trans (h.block b hb)⟩
end
end Go.G5
namespace Go.Proofs.Ytgdkeaooipmgbaa
open Go.RowKit Go.G5

end Go.Proofs.Ytgdkeaooipmgbaa
end
