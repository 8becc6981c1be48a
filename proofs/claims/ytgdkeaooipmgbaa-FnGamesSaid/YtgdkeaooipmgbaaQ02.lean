/- The program's table rows that the walks use. How the laws' arguments are read, and the frame of a law's row. Small functions of numbers. Sets as numbers: sizes and bits. Blocks that are known whole. -/
import Derived.Test.YtgdkeaooipmgbaaQ01
import Derived.Test.YtgdkeaooipmgbaaChecked
import Derived.Test.YtgdkeaooipmgbaaRows
import Derived.WalkKit
import Derived.ProofKit
import Derived.OpenShut
import Derived.Lib.SmallJoins
import Derived.Deep.Light
import Derived.Laws.BitsAllLaws
section
namespace Go.Proofs.Ytgdkeaooipmgbaa
open Go.RowKit Go.G5
theorem intElem : IntElem Try.prog 3 := ⟨by kernel_rfl⟩
end Go.Proofs.Ytgdkeaooipmgbaa
end
section
namespace Go.Proofs.Ytgdkeaooipmgbaa
open Go.ChangeShapes Go.WideShapes Go.ChangeAt Go.RowKit Go.G5
set_option maxRecDepth 100000

theorem own : ownKnob Try.prog.godebug = none := by kernel_rfl
theorem laidOut : laidOutB Try.prog = true := by kernel_rfl

theorem cells_int : Try.prog.cellsOf 3 = 1 := by kernel_rfl

theorem inR_of_wf {n : Int} (h : (Lit.int .i64 n).wf = true) : InR n := by
  simp only [Lit.wf, Bool.and_eq_true, decide_eq_true_eq] at h
  have h1 := h.1
  have h2 := h.2
  simp [IntKind.min, IntKind.max, IntKind.signed, IntKind.bits] at h1 h2
  exact ⟨by omega, by omega⟩

section
variable {H : Type} {enc : TypeId × Value → H} {P : Program} {w : World} {base : Nat} {spare : Nat → Bool} {held : Bool}

theorem rdc_int {t : TypeId} {fuel : Nat} {c : Value} {x : DataW H × List MemPlace} (ht : P.underlying t = some (.int .i64)) (h : DataW.trod enc P w base spare held fuel t [c] = some x) : ∃ n, c = .int .i64 n ∧ InR n := by
  obtain ⟨n, h1, _, h2⟩ := DataW.trod_int ht h
  simp at h1
  exact ⟨n, h1, inR_of_wf h2⟩

theorem lt_of_cell {w : World} {a : Addr} {v : Value} (h : w.cell? a = some v) : a.block < w.heap.size := World.block_lt_of_cell? w a h
theorem spot_of_cell {w : World} {a : Addr} {v : Value} (h : w.cell? a = some v) : a.spot = none := by
  unfold World.cell? at h
  split at h
  · split at h
    · simp at h
    · rename_i h'; simpa using h'
  · simp at h

theorem rdc_ints {t e : TypeId} {fuel : Nat} {c : Value} {x : DataW H × List MemPlace} (ht : P.underlying t = some (.slice e)) (he : P.underlying e = some (.int .i64)) (hc : P.cellsOf e = 1)
    (h : DataW.trod enc P w base spare held fuel t [c] = some x) : ∃ l, Ints w c l := by
  rcases open_ints ht he hc h with ⟨hcs, _⟩ | ⟨a, len, cap, zs, hcs, _, hlc, hcap, hzl, _, hcell, hwf⟩
  · simp at hcs; subst hcs
    exact ⟨[], none, 0, rfl, Nat.le_refl _, Nat.zero_le _, by simp, .inl rfl⟩
  · simp at hcs; subst hcs
    have hle : len ≤ zs.length := by rw [hzl]; split <;> omega
    have hll : (zs.take len).length = len := by simp; omega
    refine ⟨zs.take len, some a, cap, by rw [hll], by rw [hll]; exact hlc, hcap, fun y hy => inR_of_wf (hwf y (List.mem_of_mem_take hy)), ?_⟩
    by_cases h0 : len = 0
    · left; subst h0; simp
    · right
      have hc0 := hcell 0 (by omega)
      have hs := spot_of_cell hc0
      have hb := lt_of_cell hc0
      simp [Addr.add] at hs hb
      refine ⟨a.block, a.off, by cases a; simp_all, hb, fun k hk => ?_⟩
      rw [hll] at hk
      have := hcell k (by omega)
      have e : (a.add k) = ⟨a.block, a.off + k, none⟩ := by
        unfold Addr.add
        by_cases hk0 : k = 0
        · subst hk0; cases a; simp_all
        · simp [hk0]
      rw [e] at this
      rw [this]
      simp [List.getElem_take, List.getD_eq_getElem?_getD, List.getElem?_eq_getElem (show k < zs.length by omega)]

end

theorem trodAll_len {H : Type} {enc : TypeId × Value → H} {P : Program} {w : World} {base : Nat} {spare : Nat → Bool} {held : Bool} :
    ∀ {ts : List TypeId} {vs : List Value} {ds : List (DataW H)} {ps : List MemPlace}, DataW.TrodAll enc P w base spare held ts vs ds ps → ds.length = ts.length
  | [], _, _, _, h => by
    obtain ⟨rfl, rfl, rfl⟩ := trodAll_nil h
    rfl
  | t :: ts, _, _, _, h => by
    obtain ⟨v, vs1, d, ds1, a, b, rfl, rfl, rfl, h1, h2⟩ := trodAll_cons h
    simp [trodAll_len h2]

/-- every argument reads behind the call as it did -/
theorem trodAll_below {H : Type} {enc : TypeId × Value → H} {P : Program} (hl : laidOutB P = true) {W W' : World} (hb : Below W.heap.size W W') :
    ∀ {ts : List TypeId} {vs : List Value} {ds : List (DataW H)} {ps : List MemPlace}, (ts.all fun t => P.readableRec t && decide (t < P.types.size)) = true →
      DataW.TrodAll enc P W 0 (fun _ => true) true ts vs ds ps → (∀ x ∈ ps, x.block < W.heap.size) → DataW.TrodAll enc P W' 0 (fun b => decide (b < W.heap.size)) true ts vs ds ps
  | [], _, _, _, _, h, _ => by
    obtain ⟨rfl, rfl, rfl⟩ := trodAll_nil h
    exact trodAll_mk0
  | t :: ts, _, _, _, hr, h, hlt => by
    obtain ⟨v, vs1, d, ds1, a, b, rfl, rfl, rfl, h1, h2⟩ := trodAll_cons h
    simp only [List.all_cons, Bool.and_eq_true, decide_eq_true_eq] at hr
    exact trodAll_cons_mk (Below.trod hl hr.1.1 hr.1.2 h1 hb fun x hx => hlt x (by simp [hx])) (trodAll_below hl hb (by simpa using hr.2) h2 fun x hx => hlt x (by simp [hx]))

section
variable {H : Type} {enc : TypeId × Value → H} {W : World} {base : Nat} {v : Value} {d : DataW H} {p : List MemPlace}
theorem rd_int (hv : Value.okWide Try.prog W .any base 3 v) (h : DataW.Trod enc Try.prog W 0 (fun _ => true) true 3 v d p) : ∃ n, v = .int .i64 n ∧ InR n := by
  obtain ⟨n, rfl, _, _, hw⟩ := open_int Try.underlying3 hv h
  exact ⟨n, rfl, inR_of_wf hw⟩
theorem rd_ints (hv : Value.okWide Try.prog W .any base 24 v) (h : DataW.Trod enc Try.prog W 0 (fun _ => true) true 24 v d p) : ∃ l, Ints W v l := by
  obtain ⟨a, n, c, rfl⟩ := okWide_slice Try.underlying24 hv
  obtain ⟨fuel, hf⟩ := h
  exact rdc_ints Try.underlying24 Try.underlying3 cells_int hf
theorem array10 {α : Type} {cs : Array α} (h : cs.size = 10) : ∃ c0 c1 c2 c3 c4 c5 c6 c7 c8 c9, cs = #[c0, c1, c2, c3, c4, c5, c6, c7, c8, c9] := by
  obtain ⟨l⟩ := cs
  simp only [List.size_toArray] at h
  match l, h with
  | [c0, c1, c2, c3, c4, c5, c6, c7, c8, c9], _ => exact ⟨c0, c1, c2, c3, c4, c5, c6, c7, c8, c9, rfl⟩
end

/-- THE FRAME OF A LAW's ROW: the call returns true and of old memory nothing turns -/
theorem law_lift {f : FuncId} {fn : Func} {s : ChangeSpec} (os : Os) (started : os.Started) (H : Type) (enc : TypeId × Value → H)
    (hfn : Try.prog.funcs[f]? = some fn) (noInit : Try.prog.inits.idxOf? f = none) (hv : s.vars = []) (hres : fn.resultTypes = #[4])
    (hread : (fn.params.toList.all fun t => Try.prog.readableRec t && decide (t < Try.prog.types.size)) = true)
    (hspec : ∀ ds : List (DataW H), ds.length = fn.params.size → s.fn H ds = { results := [.lit (.bool true)], args := ds, vars := [] })
    (witness : ∃ (w : World) (tape : Tape) (i : Input), w.os = os ∧ (w.forCall tape i).Shaped Try.prog ∧ i.vars = [] ∧ Input.okWide Try.prog (w.forCall tape i) .any w.heap.size f i ∧
      s.pre6 enc Try.prog fn [] false (w.forCall tape i).memory i.args ∧ ({} : Assume).holds Try.prog (lone (Frame.enter Try.prog f i.args .normal) [] (w.forCall tape i)))
    (contract : ∀ (W : World) (base : Nat) (args : Array Value) (ds : List (DataW H)) (p : List MemPlace), (∀ (j : Nat) t v, fn.params[j]? = some t → args[j]? = some v → Value.okWide Try.prog W .any base t v) →
      DataW.TrodAll enc Try.prog W 0 (fun _ => true) true fn.params.toList args.toList ds p → Calls Try.prog f args W fun e W' => e = .returned (.bool true) ∧ Below W.heap.size W W') :
    ReturnsInHanded {} Try.checked os f .any (s.pre6 enc Try.prog fn [] false) (s.post enc Try.prog fn false true false false) := by
  refine returnsInHanded_of_change (C := Try.checked) own started noInit hfn witness ?_
  intro W base args ds gs before hval0 hW hcnd _
  have hval : ∀ (j : Nat) t v, fn.params[j]? = some t → args[j]? = some v → Value.okWide Try.prog W .any base t v := hval0
  have hlt0 := hW.lt
  have hW' := hW
  obtain ⟨p, q, hA0, hV, rfl, hfz, hnd⟩ := hW
  have hA : DataW.TrodAll enc Try.prog W 0 (fun _ => true) true fn.params.toList args.toList ds p := hA0
  rw [hv] at hV
  obtain ⟨rfl, rfl⟩ := trodVars_none hV
  refine (contract W base args ds p hval hA).mono fun e W' ⟨he, hb⟩ => ?_
  have hlen : ds.length = fn.params.size := by
    have := trodAll_len hA
    simpa using this
  refine ⟨_, he, ds, [], p ++ [], [], p, [], hW', ?_, ?_, ?_, hb.frame _, fun h => by cases h⟩
  · rw [List.append_nil, hspec ds hlen, hres]
    exact trodAll_mk1 (shut_bool Try.underlying4 true)
  · rw [List.append_nil, hspec ds hlen]
    exact trodAll_below laidOut hb hread hA fun x hx => by simpa using hlt0 x (by simp [hx])
  · rw [List.append_nil, hspec ds hlen, hv]
    exact hV
end Go.Proofs.Ytgdkeaooipmgbaa
end
section
namespace Go.Proofs.Ytgdkeaooipmgbaa
open Go.RowKit Go.G5

def inB (n lo hi : Int) : Bool := decide (lo ≤ n) && decide (n ≤ hi)
theorem inB_true {n lo hi : Int} : inB n lo hi = true ↔ lo ≤ n ∧ n ≤ hi := by simp [inB]
theorem inB_false {n lo hi : Int} : inB n lo hi = false ↔ n < lo ∨ hi < n := by
  unfold inB; by_cases h1 : lo ≤ n <;> by_cases h2 : n ≤ hi <;> simp [h1, h2] <;> omega

theorem within_any (n lo hi : Int) (w : World) :
    Calls Try.prog 39 #[.int .i64 n, .int .i64 lo, .int .i64 hi] w fun e w' => e = .returned (.bool (inB n lo hi)) ∧ w = w' := by
  unfold inB
  by_cases h1 : lo ≤ n
  · go_enter Try.func39, Try.ntmps39
    go_wp2
    go_ret
    exact ⟨by simp [h1], rfl⟩
  · have h2 : decide (lo ≤ n) = false := by simpa using h1
    go_enter Try.func39, Try.ntmps39
    go_wp2
    go_ret
    exact ⟨ret_bool (by simp), rfl⟩

theorem l1In_any (n lo hi : Int) (w : World) :
    Calls Try.prog 38 #[.int .i64 n, .int .i64 lo, .int .i64 hi] w fun e w' => e = .returned (.bool (inB n lo hi)) ∧ w = w' := by
  unfold inB
  by_cases h1 : lo ≤ n
  · go_enter Try.func38, Try.ntmps38
    go_wp2
    go_ret
    exact ⟨by simp [h1], rfl⟩
  · have h2 : decide (lo ≤ n) = false := by simpa using h1
    go_enter Try.func38, Try.ntmps38
    go_wp2
    go_ret
    exact ⟨ret_bool (by simp), rfl⟩

def fact : Nat → Nat
  | 0 => 1
  | n + 1 => (n + 1) * fact n
theorem fact_mono (a b : Nat) (h : a ≤ b) : fact a ≤ fact b := by
  induction b with
  | zero => have : a = 0 := by omega
            subst this; exact Nat.le_refl _
  | succ b ih =>
    by_cases hb : a ≤ b
    · have := ih hb
      calc fact a ≤ fact b := this
        _ ≤ (b + 1) * fact b := Nat.le_mul_of_pos_left _ (by omega)
    · have : a = b + 1 := by omega
      subst this; exact Nat.le_refl _
def factOf (n : Int) : Int := if inB n 0 12 then fact n.toNat else -1
theorem fact_12 : fact 12 = 479001600 := by decide

theorem fact_le (k : Nat) (h : k ≤ 12) : fact k ≤ 479001600 := fact_12 ▸ fact_mono k 12 h

set_option maxHeartbeats 400000 in
theorem factI_any (n : Int) (w : World) :
    Calls Try.prog 15 #[.int .i64 n] w fun e w' => e = .returned (.int .i64 (factOf n)) ∧ w = w' := by
  cases hin : inB n 0 12 with
  | false =>
    have hf : factOf n = -1 := by unfold factOf; rw [hin]; rfl
    go_enter Try.func15, Try.ntmps15
    go_wp2_with (go_at_call 39; refine (within_any _ _ _ _).mono ?_; rintro e w' ⟨rfl, rfl⟩)
    go_ret
    exact ⟨ret_int hf.symm, rfl⟩
  | true =>
    have hb := inB_true.1 hin
    have h0 : 0 ≤ n := hb.1
    have h12 : n ≤ 12 := hb.2
    have hf : factOf n = fact n.toNat := by unfold factOf; rw [hin]; rfl
    have HF := Lib.hid hf
    clear hf hb
    go_enter Try.func15, Try.ntmps15
    go_wp2_with (go_at_call 39; refine (within_any _ _ _ _).mono ?_; rintro e w' ⟨rfl, rfl⟩)
    go_loop [3, 4] (fun p i => ∃ k : Nat, 1 ≤ k ∧ k ≤ 12 ∧ (k : Int) ≤ max n 1 ∧ i = .int .i64 (k + 1) ∧ p = .int .i64 (fact k)) (fun _ i => 14 - (intOf i).toNat)
    case atStart => exact ⟨1, by omega, by omega, by omega, rfl, rfl⟩
    case round =>
      obtain ⟨k, hk1, hk12, hkn, rfl, rfl⟩ := hrel
      have hfk := fact_le k hk12
      by_cases hlt : (k : Int) + 1 ≤ n
      · have hs : fact (k + 1) = (k + 1) * fact k := rfl
        have hfk1 := fact_le (k + 1) (by omega)
        have hm : (fact k : Int) * (k + 1) = fact (k + 1) := by rw [hs]; push_cast; exact Int.mul_comm _ _
        have hle : (fact k : Int) * (k + 1) ≤ 479001600 := by rw [hm]; omega
        have hge : 0 ≤ (fact k : Int) * (k + 1) := by rw [hm]; omega
        have HM := Lib.hid hm
        clear hs hm
        go_wp2
        go_round
        case rel => exact ⟨k + 1, by omega, by omega, by omega, by go_num, by rw [HM.out]⟩
        case measure => simp [intOf]; omega
      · go_wp2
        go_ret
        refine ⟨ret_int ?_, rfl⟩
        rw [HF.out]
        by_cases h1 : 1 ≤ n
        · rw [show n.toNat = k from by omega]
        · have : n.toNat = 0 := by omega
          rw [this, show k = 1 from by omega]; rfl
set_option maxHeartbeats 400000 in
theorem factS_any (n : Int) (w : World) :
    Calls Try.prog 32 #[.int .i64 n] w fun e w' => e = .returned (.int .i64 (factOf n)) ∧ w = w' := by
  cases hin : inB n 0 12 with
  | false =>
    have hf : factOf n = -1 := by unfold factOf; rw [hin]; rfl
    go_enter Try.func32, Try.ntmps32
    go_wp2_with (go_at_call 38; refine (l1In_any _ _ _ _).mono ?_; rintro e w' ⟨rfl, rfl⟩)
    go_ret
    exact ⟨ret_int hf.symm, rfl⟩
  | true =>
    have hb := inB_true.1 hin
    have h0 : 0 ≤ n := hb.1
    have h12 : n ≤ 12 := hb.2
    have hf : factOf n = fact n.toNat := by unfold factOf; rw [hin]; rfl
    have HF := Lib.hid hf
    clear hf hb
    go_enter Try.func32, Try.ntmps32
    go_wp2_with (go_at_call 38; refine (l1In_any _ _ _ _).mono ?_; rintro e w' ⟨rfl, rfl⟩)
    go_loop [3, 4] (fun p i => ∃ k : Nat, 1 ≤ k ∧ k ≤ 12 ∧ (k : Int) ≤ max n 1 ∧ i = .int .i64 (k + 1) ∧ p = .int .i64 (fact k)) (fun _ i => 14 - (intOf i).toNat)
    case atStart => exact ⟨1, by omega, by omega, by omega, rfl, rfl⟩
    case round =>
      obtain ⟨k, hk1, hk12, hkn, rfl, rfl⟩ := hrel
      have hfk := fact_le k hk12
      by_cases hlt : (k : Int) + 1 ≤ n
      · have hs : fact (k + 1) = (k + 1) * fact k := rfl
        have hfk1 := fact_le (k + 1) (by omega)
        have hm : (fact k : Int) * (k + 1) = fact (k + 1) := by rw [hs]; push_cast; exact Int.mul_comm _ _
        have hle : (fact k : Int) * (k + 1) ≤ 479001600 := by rw [hm]; omega
        have hge : 0 ≤ (fact k : Int) * (k + 1) := by rw [hm]; omega
        have HM := Lib.hid hm
        clear hs hm
        go_wp2
        go_round
        case rel => exact ⟨k + 1, by omega, by omega, by omega, by go_num, by rw [HM.out]⟩
        case measure => simp [intOf]; omega
      · go_wp2
        go_ret
        refine ⟨ret_int ?_, rfl⟩
        rw [HF.out]
        by_cases h1 : 1 ≤ n
        · rw [show n.toNat = k from by omega]
        · have : n.toNat = 0 := by omega
          rw [this, show k = 1 from by omega]; rfl

def harm (n : Nat) : Int := match n with
  | 0 => 0
  | n + 1 => harm n + 60 / ((n : Int) + 1)
def harmOf (n : Int) : Int := if inB n 0 6 then harm n.toNat else -1
theorem harm_bd (n : Nat) : 0 ≤ harm n ∧ harm n ≤ 60 * n := by
  induction n with
  | zero => simp [harm]
  | succ n ih =>
    have h1 : 60 / ((n : Int) + 1) ≤ 60 := Int.ediv_le_self _ (by omega)
    have h2 : 0 ≤ 60 / ((n : Int) + 1) := Int.ediv_nonneg (by omega) (by omega)
    simp only [harm]; omega

/-! words of claims -/
def claimWord (k : Int) : ByteArray :=
  if k = 1 then ⟨#[109, 105, 110, 105, 109, 117, 109]⟩ else if k = 2 then ⟨#[118, 105, 111, 108, 97, 116, 105, 111, 110]⟩ else if k = 3 then ⟨#[98, 97, 115, 101]⟩
  else if k = 4 then ⟨#[99, 111, 109, 109, 111, 110]⟩ else if k = 5 then ⟨#[99, 117, 116]⟩ else if k = 6 then ⟨#[115, 117, 110, 102, 108, 111, 119, 101, 114]⟩ else if k = 7 then ⟨#[104, 97, 108, 108]⟩ else ⟨#[]⟩

/-! powers -/
theorem pow_le_pow (b k n : Nat) (hb : b ≤ 5) (hkn : k ≤ n) (hn : n ≤ 6) : b ^ k ≤ 15625 := by
  calc b ^ k ≤ 5 ^ k := Nat.pow_le_pow_left hb k
    _ ≤ 5 ^ 6 := Nat.pow_le_pow_right (by omega) (by omega)
    _ = 15625 := by decide

def sunBound (s k : Int) : Int := if inB s 0 6 && inB k 1 5 then ((fact s.toNat * (k - 1).toNat ^ s.toNat : Nat) : Int) else -1

theorem fact6 (n : Nat) (h : n ≤ 6) : fact n ≤ 720 := fact_mono n 6 h

end Go.Proofs.Ytgdkeaooipmgbaa
end
section
namespace Go.Proofs.Ytgdkeaooipmgbaa
open Go.RowKit Go.G5

theorem wraps_i64 (n : Int) (h₀ : 0 ≤ n) (h₁ : n < 2 ^ 62) : IntKind.i64.wrap n = n := by rw [IntKind.wrap_i64]; omega
theorem bitsA (a b : Nat) (ha : a < 2 ^ 62) (hb : b < 2 ^ 62) : bits .and .i64 (a : Int) (b : Int) = ((a &&& b : Nat) : Int) := (bits_nat .i64 62 (by decide) wraps_i64 a b ha hb).1
theorem bitsO (a b : Nat) (ha : a < 2 ^ 62) (hb : b < 2 ^ 62) : bits .or .i64 (a : Int) (b : Int) = ((a ||| b : Nat) : Int) := (bits_nat .i64 62 (by decide) wraps_i64 a b ha hb).2
theorem bitsA1 (a : Nat) (ha : a < 2 ^ 62) : bits .and .i64 (a : Int) 1 = ((a % 2 : Nat) : Int) := by
  have := bitsA a 1 ha (by decide)
  rw [Nat.and_one_is_mod] at this
  exact this
/-- what is in a and not in b -/
def ndiff (a b : Nat) : Nat := a - (a &&& b)
theorem bitsN (a b : Nat) (ha : a < 64) (hb : b < 64) : bits .andNot .i64 (a : Int) (b : Int) = ((ndiff a b : Nat) : Int) := by
  have h : ∀ a, a < 64 → ∀ b, b < 64 → bits .andNot .i64 ((a : Nat) : Int) ((b : Nat) : Int) = ((ndiff a b : Nat) : Int) := by decide +kernel
  exact h a ha b hb
theorem and_lt (a b n : Nat) (ha : a < n) : a &&& b < n := Nat.lt_of_le_of_lt Nat.and_le_left ha
theorem or_lt64 (a b : Nat) (ha : a < 64) (hb : b < 64) : a ||| b < 64 := Nat.or_lt_two_pow (n := 6) ha hb
theorem ndiff_lt (a b n : Nat) (ha : a < n) : ndiff a b < n := by unfold ndiff; omega
theorem two_pow (n m : Nat) (h : n ≤ m) : (2 : Int) ^ n ≤ 2 ^ m ∧ 0 < (2 : Int) ^ n := by
  constructor
  · have := Nat.pow_le_pow_right (show 0 < 2 by decide) h
    exact_mod_cast this
  · have := Nat.two_pow_pos n
    exact_mod_cast this

/-- the number of elements of a set -/
def pop (n : Nat) : Nat := (List.range 64).foldl (fun a i => a + (n >>> i) % 2) 0

theorem ones64_any (n : Nat) (w : World) (h : n < 256) :
    Calls Try.prog 79 #[.int .u64 n] w fun e w' => e = .returned (.int .i64 (pop n)) ∧ w = w' := by
  go_enter Try.func79, Try.ntmps79
  go_wp2
  go_ret
  refine ⟨ret_int ?_, rfl⟩
  clear w
  revert n
  decide +kernel

theorem ones_any (n : Nat) (w : World) (h : n < 256) :
    Calls Try.prog 68 #[.int .u64 n] w fun e w' => e = .returned (.int .i64 (pop n)) ∧ w = w' := by
  go_enter Try.func68, Try.ntmps68
  go_wp2_with (go_at_call 79; refine (ones64_any n _ h).mono ?_; rintro e w' ⟨rfl, rfl⟩)
  go_ret
  exact ⟨rfl, rfl⟩

theorem sizeOf_any (n : Nat) (w : World) (h : n < 256) :
    Calls Try.prog 36 #[.int .i64 n] w fun e w' => e = .returned (.int .i64 (pop n)) ∧ w = w' := by
  go_enter Try.func36, Try.ntmps36
  go_wp2_with (go_at_call 68; refine (ones_any n _ h).mono ?_; rintro e w' ⟨rfl, rfl⟩)
  go_ret
  exact ⟨rfl, rfl⟩

theorem pop_step (n : Nat) (h : n < 256) : pop n = n % 2 + pop (n / 2) := by
  revert n; decide +kernel
theorem pop_zero : pop 0 = 0 := by decide +kernel
theorem pop_le (n : Nat) (h : n < 256) : pop n ≤ 8 := by
  revert n; decide +kernel

theorem l2Full_any (n : Nat) (w : World) (h : n ≤ 40) :
    Calls Try.prog 61 #[.int .i64 n] w fun e w' => e = .returned (.int .i64 (2 ^ n - 1)) ∧ w = w' := by
  have h2 := two_pow n 40 h
  have h3 := h2.1
  have h4 := h2.2
  simp at h3
  clear h2
  go_enter Try.func61, Try.ntmps61
  go_wp2
  go_ret
  exact ⟨rfl, rfl⟩
theorem l2Size_any (n : Nat) (w : World) (h : n < 256) :
    Calls Try.prog 37 #[.int .i64 n] w fun e w' => e = .returned (.int .i64 (pop n)) ∧ w = w' := by
  go_enter Try.func37, Try.ntmps37
  go_wp2
  go_loop [3, 4] (fun s x => ∃ k q : Nat, k < 256 ∧ q + pop k = pop n ∧ s = .int .i64 q ∧ x = .int .i64 k) (fun _ x => (intOf x).toNat)
  case atStart => exact ⟨n, 0, h, by omega, rfl, rfl⟩
  case round =>
    obtain ⟨k, q, hk, hq, rfl, rfl⟩ := hrel
    have hs := pop_step k hk
    have hp := pop_le n h
    have hb := bitsA1 k (by omega)
    have hq8 : q ≤ 8 := by omega
    have hm : k % 2 < 2 := by omega
    have H := Lib.hid hq
    have HS := Lib.hid hs
    clear hs hq
    by_cases h0 : 0 < k
    · go_wp2
      go_round
      case rel => exact ⟨k / 2, q + k % 2, by omega, by have := H.out; have := HS.out; omega, by go_num, by go_num⟩
      case measure => simp [intOf]; omega
    · go_wp2
      go_ret
      refine ⟨ret_int ?_, rfl⟩
      have h1 := H.out
      have h2 : k = 0 := by omega
      rw [h2, pop_zero] at h1
      omega
end Go.Proofs.Ytgdkeaooipmgbaa
end
section
namespace Go.G5
open Go Go.RowKit
/-- block g is just the cells cs -/
def Blk (w : World) (g : Nat) (t : TypeId) (cs : Array Value) : Prop := w.heap[g]? = some (.cells cs t (0, 0))
section
variable {w w' : World} {g : Nat} {t : TypeId} {cs : Array Value}
theorem Blk.lt (h : Blk w g t cs) : g < w.heap.size := (Array.getElem?_eq_some_iff.1 h).1
theorem Blk.cell (h : Blk w g t cs) : ∀ i, w.cell? ⟨g, i, none⟩ = cs[i]? := fun i => cell_of_row w g i cs t (0, 0) h
theorem Blk.frozen (h : Blk w g t cs) : ∀ i, w.frozen? ⟨g, i, none⟩ = false := fun i => by
  unfold Blk at h
  simp [World.frozen?, h]
theorem Blk.new (w : World) (t : TypeId) (cs : Array Value) : Blk (w.alloc (.cells cs t)) w.heap.size t cs := heap_alloc_new w _
theorem Blk.keep (h : Blk w g t cs) (hb : Below w.heap.size w w') : Blk w' g t cs := (hb.block g h.lt).trans h
theorem Blk.alloc (h : Blk w g t cs) (o : Obj) : Blk (w.alloc o) g t cs := h.keep (bl1 w o)
theorem Blk.drewN (h : Blk w g t cs) (n : Nat) : Blk (w.drewN n) g t cs := h
theorem Blk.set (h : Blk w g t cs) (i : Nat) (u : Value) : Blk (w.setCell ⟨g, i, none⟩ u) g t (cs.setIfInBounds i u) := by
  unfold Blk at h ⊢
  simp [World.setCell, Array.getElem?_modify, h]
theorem Blk.far (h : Blk w g t cs) {p : Addr} (hp : g ≠ p.block) (u : Value) : Blk (w.setCell p u) g t cs := (Below.heap_setCell w p u g hp).trans h
theorem Blk.grow {row : Option Nat} (h : Blk w g t cs) (hb : w.grownBy w' row) (hg : row ≠ some g) : Blk w' g t cs := (hb.block g h.lt (fun e => hg e.symm)).trans h
end
theorem post_named {P : Program} {f : Func} {Q : Ending → World → Prop} {e : Exit} {a : Act} {W : World} (h : ∀ W', W' = W → bodyPost P f Q e a W') : bodyPost P f Q e a W := h W rfl
end Go.G5
end
