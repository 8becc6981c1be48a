/- The laws' own marks. Marks of values with several lists. Texts: numerals and joined lists, in plain words. Numerals: the second program. -/
import Derived.Test.YtipejodijbjpcaaGreatDoorQ03
import Derived.Deep.Light
import Derived.Lib.ItoaNum
import Derived.Lib.Join
import Derived.Lib.SmallJoins
import Derived.Laws.IdiomStrings
section
namespace Go.Proofs.YtipejodijbjpcaaGreatDoor
open Go.RowKit Go.G5

def ramp (k : Int) : Nat → List Int
  | 0 => []
  | n + 1 => k :: ramp (k + 1) n
theorem ramp_len (n : Nat) : ∀ k : Int, (ramp k n).length = n := by
  induction n with
  | zero => intro k; rfl
  | succ n ih => intro k; simp [ramp, ih]
theorem ramp_get (n : Nat) : ∀ (k : Int) (j : Nat) (h : j < (ramp k n).length), (ramp k n)[j] = k + j := by
  induction n with
  | zero => intro k j h; simp [ramp] at h
  | succ n ih =>
    intro k j h
    cases j with
    | zero => simp [ramp]
    | succ j =>
      simp only [ramp, List.getElem_cons_succ]
      rw [ih (k + 1) j (by simpa [ramp] using h)]
      push_cast; omega
theorem ramp_step (k : Int) (l : List Int) (j : Nat) (h : j < l.length) : (ramp k j ++ l.drop j).set j (k + j) = ramp k (j + 1) ++ l.drop (j + 1) := by
  apply List.ext_getElem
  · simp [ramp_len]; omega
  · intro i h1 h2
    simp only [List.length_set, List.length_append, ramp_len, List.length_drop] at h1 h2
    rw [List.getElem_set]
    by_cases hi : j = i
    · subst hi
      rw [if_pos rfl, List.getElem_append_left (by rw [ramp_len]; omega), ramp_get]
    · rw [if_neg hi]
      by_cases hij : i < j
      · rw [List.getElem_append_left (by rw [ramp_len]; omega), List.getElem_append_left (by rw [ramp_len]; omega), ramp_get, ramp_get]
      · rw [List.getElem_append_right (by rw [ramp_len]; omega), List.getElem_append_right (by rw [ramp_len]; omega)]
        simp only [ramp_len, List.getElem_drop]
        congr 1; omega

theorem ramp_inR (k : Int) (n : Nat) (h0 : 0 ≤ k) (h1 : k + n ≤ 9223372036854775807) : ∀ x ∈ ramp k n, InR x := by
  intro x hx
  obtain ⟨j, hj, rfl⟩ := List.getElem_of_mem hx
  rw [ramp_get]
  rw [ramp_len] at hj
  exact ⟨by omega, by omega⟩

end Go.Proofs.YtipejodijbjpcaaGreatDoor
end
section
namespace Go.G5
open Go Go.RowKit
/-- w' is w with new blocks and changes to blocks of P alone -/
structure GrownIn (w w' : World) (P : Nat → Prop) : Prop where
  os : w'.os = w.os
  tape : w'.tape = w.tape
  output : w'.output = w.output
  size : w.heap.size ≤ w'.heap.size
  block : ∀ b, b < w.heap.size → ¬ P b → w'.heap[b]? = w.heap[b]?
section
variable {w w' w'' : World} {P : Nat → Prop}
theorem GrownIn.refl (w : World) (P : Nat → Prop) : GrownIn w w P := ⟨rfl, rfl, rfl, Nat.le_refl _, fun _ _ _ => rfl⟩
theorem GrownIn.trans (h : GrownIn w w' P) (k : GrownIn w' w'' P) : GrownIn w w'' P :=
  ⟨k.os.trans h.os, k.tape.trans h.tape, k.output.trans h.output, Nat.le_trans h.size k.size, fun b hb hr => (k.block b (Nat.lt_of_lt_of_le hb h.size) hr).trans (h.block b hb hr)⟩
theorem GrownIn.of_row {row : Option Nat} (h : w.grownBy w' row) (hP : ∀ k, row = some k → P k) : GrownIn w w' P := ⟨h.os, h.tape, h.output, h.size, fun b hb hn => h.block b hb (fun e => hn (hP b e.symm))⟩
theorem GrownIn.of_below (h : Below w.heap.size w w') : GrownIn w w' P := ⟨h.os, h.tape, h.output, h.size, fun b hb _ => h.block b hb⟩
theorem Blk.growIn {g : Nat} {t : TypeId} {cs : Array Value} (h : Blk w g t cs) (hg : GrownIn w w' P) (hn : ¬ P g) : Blk w' g t cs := (hg.block g h.lt hn).trans h
theorem OwnW.growIn {E : TypeId} {B : Nat} {v : Value} {l : List Int} (h : OwnW E B w v l) (hg : GrownIn w w' P) (hn : ∀ k, v.ownBlock = some k → ¬ P k) : OwnW E B w' v l := by
  refine ⟨h.1, ?_⟩
  rcases h.2 with h1 | ⟨g, cap, cur, rfl, hBg, hh, r⟩
  · exact .inl h1
  · refine .inr ⟨g, cap, cur, rfl, hBg, ?_, r⟩
    rw [hg.block g (Array.getElem?_eq_some_iff.1 hh).1 (hn g rfl)]
    exact hh
theorem Below.growIn {B : Nat} {a : World} (h : Below B a w) (hg : GrownIn w w' P) (hB : B ≤ w.heap.size) (hn : ∀ k, P k → B ≤ k) : Below B a w' :=
  ⟨hg.os.trans h.os, hg.tape.trans h.tape, hg.output.trans h.output, Nat.le_trans h.size hg.size, fun b hb => (hg.block b (by omega) (fun hp => by have := hn b hp; omega)).trans (h.block b hb)⟩
end
end Go.G5
namespace Go.Proofs.YtipejodijbjpcaaGreatDoor
open Go.RowKit Go.G5

end Go.Proofs.YtipejodijbjpcaaGreatDoor
end
section
namespace Go.G5
open Go

theorem ba_ext {a b : ByteArray} (h : a.data.toList = b.data.toList) : a = b := by
  cases a; cases b; congr 1; exact Array.toList_inj.1 h
theorem ba_mk (l : List UInt8) : (⟨l.toArray⟩ : ByteArray).data.toList = l := rfl
theorem ba_app (a b : ByteArray) : (a ++ b).data.toList = a.data.toList ++ b.data.toList := by rw [ByteArray.data_append, Array.toList_append]
theorem ba_size (a : ByteArray) : a.size = a.data.toList.length := Lib.size_eq a
theorem ba_emp {a : ByteArray} : a.size = 0 ↔ a = ByteArray.empty := by
  constructor
  · intro h
    rw [ba_size] at h
    exact ba_ext (by rw [List.eq_nil_of_length_eq_zero h]; rfl)
  · rintro rfl; rfl

/-- the numeral of n -/
def itoaB (n : Int) : ByteArray := ⟨(Lib.itoa n).toArray⟩
/-- the parts, with sep between -/
def joinB (sep : ByteArray) (xs : List ByteArray) : ByteArray := ⟨(Lib.join (xs.map (·.data.toList)) sep.data.toList).toArray⟩

theorem joinB_nil (sep : ByteArray) : joinB sep [] = ByteArray.empty := rfl
theorem joinB_one (sep x : ByteArray) : joinB sep [x] = x := ba_ext (by
  show Lib.join [x.data.toList] sep.data.toList = _
  rw [Lib.join_one])
theorem joinTail_app (sep : List UInt8) (r s : List (List UInt8)) : Lib.joinTail sep (r ++ s) = Lib.joinTail sep r ++ Lib.joinTail sep s := by
  simp [Lib.joinTail]
theorem joinB_snoc (sep : ByteArray) (xs : List ByteArray) (y : ByteArray) (h : xs ≠ []) : joinB sep (xs ++ [y]) = joinB sep xs ++ sep ++ y := by
  cases xs with
  | nil => exact absurd rfl h
  | cons x r =>
    refine ba_ext ?_
    rw [ba_app, ba_app]
    show Lib.join ((x :: (r ++ [y])).map (·.data.toList)) sep.data.toList = Lib.join ((x :: r).map (·.data.toList)) sep.data.toList ++ sep.data.toList ++ y.data.toList
    rw [List.map_cons, List.map_cons, Lib.join_cons, Lib.join_cons, List.map_append, joinTail_app]
    simp [Lib.joinTail, List.append_assoc]
theorem joinB_size (sep : ByteArray) (m : Nat) : ∀ (xs : List ByteArray), (∀ x ∈ xs, x.size ≤ m) → (joinB sep xs).size ≤ xs.length * (m + sep.size)
  | [], _ => by simp [joinB_nil]
  | x :: r, h => by
    have h1 := h x (by simp)
    have h2 : Lib.lens (r.map (·.data.toList)) ≤ r.length * m := by
      have : ∀ (s : List ByteArray), (∀ x ∈ s, x.size ≤ m) → Lib.lens (s.map (·.data.toList)) ≤ s.length * m := by
        intro s hs
        induction s with
        | nil => simp [Lib.lens]
        | cons y s ih =>
          have a := hs y (by simp)
          have b := ih (fun z hz => hs z (by simp [hz]))
          rw [ba_size] at a
          simp only [Lib.lens, List.map_cons, List.sum_cons, List.length_cons] at b ⊢
          rw [Nat.succ_mul]
          omega
      exact this r (fun z hz => h z (by simp [hz]))
    rw [ba_size] at h1 ⊢
    show (Lib.join ((x :: r).map (·.data.toList)) sep.data.toList).length ≤ _
    rw [List.map_cons, Lib.join_cons, List.length_append, Lib.joinTail_length, List.length_map, List.length_cons, Nat.succ_mul, ba_size sep, Nat.mul_add, Nat.mul_comm sep.data.toList.length]
    omega
theorem joinB_ne (sep : ByteArray) (x : ByteArray) (r : List ByteArray) (h : x ≠ ByteArray.empty) : joinB sep (x :: r) ≠ ByteArray.empty := by
  intro e
  have := congrArg (fun a => a.data.toList) e
  have h0 : x.data.toList = [] := by
    change Lib.join ((x :: r).map (·.data.toList)) sep.data.toList = [] at this
    rw [List.map_cons, Lib.join_cons] at this
    exact (List.append_eq_nil_iff.1 this).1
  exact h (ba_ext h0)
/-- the next part behind those that are joined -/
theorem joinB_take (sep : ByteArray) (xs : List ByteArray) (k : Nat) (h : k < xs.length) : joinB sep (xs.take (k + 1)) = if k = 0 then xs[k] else joinB sep (xs.take k) ++ sep ++ xs[k] := by
  rw [List.take_succ_eq_append_getElem h]
  split
  · rename_i h0
    subst h0
    exact joinB_one _ _
  · rename_i h0
    refine joinB_snoc _ _ _ (fun e => ?_)
    have := congrArg List.length e
    rw [List.length_take, List.length_nil] at this
    omega

/-! numerals -/
/-- the digits of u, none of 0 -/
def digs (u : Nat) : List UInt8 := if u = 0 then [] else Lib.decDigits u
theorem digs_step (u : Nat) (h : 0 < u) : digs u = digs (u / 10) ++ [UInt8.ofNat (48 + u % 10)] := by
  unfold digs
  rw [if_neg (show ¬ u = 0 by omega), Lib.decDigits]
  split
  · rename_i h1
    rw [if_pos (show u / 10 = 0 by omega), Nat.mod_eq_of_lt h1]; rfl
  · rename_i h1
    rw [if_neg (show ¬ u / 10 = 0 by omega)]
theorem decDigits_len : ∀ (k u : Nat), u < 10 ^ k → 0 < k → (Lib.decDigits u).length ≤ k
  | 0, _, _, h => by omega
  | k + 1, u, h, _ => by
    rw [Lib.decDigits]
    split
    · simp
    · rename_i h1
      have : u / 10 < 10 ^ k := by rw [Nat.pow_succ] at h; omega
      have hk : 0 < k := by
        rcases Nat.eq_zero_or_pos k with rfl | h2
        · simp at h; omega
        · exact h2
      have := decDigits_len k (u / 10) this hk
      simp; omega
theorem decDigits_ne (u : Nat) : Lib.decDigits u ≠ [] := by
  rw [Lib.decDigits]
  split <;> simp
theorem itoaB_size (n : Int) (h : -9223372036854775808 ≤ n ∧ n ≤ 9223372036854775807) : (itoaB n).size ≤ 21 := by
  rw [ba_size]
  show (Lib.itoa n).length ≤ 21
  unfold Lib.itoa
  split
  · have := decDigits_len 20 n.natAbs (by omega) (by omega)
    simp; omega
  · have := decDigits_len 20 n.toNat (by omega) (by omega)
    omega
theorem itoaB_ne (n : Int) : itoaB n ≠ ByteArray.empty := by
  intro e
  have h : Lib.itoa n = [] := congrArg (fun a => a.data.toList) e
  unfold Lib.itoa at h
  split at h
  · cases h
  · exact decDigits_ne _ h
end Go.G5
end
section
namespace Go.Proofs.YtipejodijbjpcaaGreatDoor
open Go.RowKit Go.G5

theorem cv1 (w : World) (r : Nat) (hr : r < 10) : (convert 58 9 (.slice (some ⟨w.heap.size, 0, none⟩) 1 1)).run Tryz.prog (w.alloc (.cells #[.int .u8 (48 + (r : Int))] 5)) = .ok (.string ⟨#[UInt8.ofNat (48 + r)]⟩) (w.alloc (.cells #[.int .u8 (48 + (r : Int))] 5)) := by
  refine run_convert_bytes_back (P := Tryz.prog) _ 58 9 5 ⟨w.heap.size, 0, none⟩ 1 [UInt8.ofNat (48 + r)] Tryz.underlying58 Tryz.underlying5 Tryz.underlying9 ?_
  intro j hj
  have hj0 : j = 0 := by simpa using hj
  subst hj0
  have h1 : (UInt8.ofNat (48 + r)).toNat = 48 + r := by
    rw [UInt8.toNat_ofNat']; omega
  show (w.alloc _).cell? ⟨w.heap.size, 0, none⟩ = some (.int .u8 ((UInt8.ofNat (48 + r)).toNat : Int))
  rw [cell_new w _ _ 0 (.int .u8 (48 + (r : Int))) rfl, h1]
  congr 2
theorem dig8 (r : Nat) : UInt8.ofNat (48 + r) = 48 + UInt8.ofNat r := by simp
theorem ret_str {a b : ByteArray} (h : a = b) : Ending.returned (.string a) = .returned (.string b) := by rw [h]
theorem itoaB_zero : itoaB 0 = ⟨#[48]⟩ := by
  refine ba_ext ?_
  show Lib.itoa 0 = [48]
  unfold Lib.itoa
  rw [if_neg (by decide), Lib.decDigits]; rfl
theorem itoaB_pos (k : Nat) (b : ByteArray) (h : 0 < k) (hb : b.data.toList = digs k) : itoaB (k : Int) = b := by
  refine ba_ext ?_
  rw [hb]
  show Lib.itoa (k : Int) = _
  unfold Lib.itoa digs
  rw [if_neg (by omega), if_neg (by omega), Int.toNat_natCast]
theorem itoaB_neg (k : Nat) (b : ByteArray) (h : 0 < k) (hb : b.data.toList = digs k) : itoaB (-(k : Int)) = ⟨#[45]⟩ ++ b := by
  refine ba_ext ?_
  rw [ba_app, hb]
  show Lib.itoa (-(k : Int)) = [45] ++ _
  unfold Lib.itoa digs
  rw [if_pos (by omega), if_neg (by omega), Int.natAbs_neg, Int.natAbs_natCast]; rfl
theorem digs_len (k : Nat) (h : k < 10 ^ 20) : (digs k).length ≤ 20 := by
  unfold digs
  split
  · simp
  · exact decDigits_len 20 k h (by decide)
theorem digs_more (j k : Nat) (b : ByteArray) (hj : 0 < j) (h : digs j ++ b.data.toList = digs k) : digs (j / 10) ++ ((⟨#[UInt8.ofNat (48 + j % 10)]⟩ : ByteArray) ++ b).data.toList = digs k := by
  rw [ba_app, ← h, digs_step j hj, List.append_assoc]
theorem digs_fit (j k : Nat) (b : ByteArray) (hk : k < 10 ^ 20) (h : digs j ++ b.data.toList = digs k) : b.size ≤ 20 := by
  have h1 := digs_len k hk
  rw [← h, List.length_append] at h1
  rw [ba_size]; omega

theorem tdm (m : Int) : (Int.tmod m 10).natAbs = m.natAbs % 10 ∧ (Int.tdiv m 10).natAbs = m.natAbs / 10 ∧ (0 ≤ m → 0 ≤ Int.tmod m 10 ∧ 0 ≤ Int.tdiv m 10) ∧ (m ≤ 0 → Int.tmod m 10 ≤ 0 ∧ Int.tdiv m 10 ≤ 0) := by
  rcases Int.le_total 0 m with h | h
  · obtain ⟨k, rfl⟩ := Int.eq_ofNat_of_zero_le h
    have e1 : Int.tmod (k : Int) 10 = ((k % 10 : Nat) : Int) := by rw [Int.tmod_eq_emod_of_nonneg (by omega)]; rfl
    have e2 : Int.tdiv (k : Int) 10 = ((k / 10 : Nat) : Int) := by rw [Int.tdiv_eq_ediv_of_nonneg (by omega)]; rfl
    rw [e1, e2]
    refine ⟨by omega, by omega, fun _ => ⟨by omega, by omega⟩, fun h2 => ?_⟩
    have : k = 0 := by omega
    subst this; simp
  · obtain ⟨k, rfl⟩ : ∃ k : Nat, m = -(k : Int) := ⟨m.natAbs, by omega⟩
    have e1 : Int.tmod (-(k : Int)) 10 = -((k % 10 : Nat) : Int) := by rw [Int.neg_tmod, Int.tmod_eq_emod_of_nonneg (by omega)]; rfl
    have e2 : Int.tdiv (-(k : Int)) 10 = -((k / 10 : Nat) : Int) := by rw [Int.neg_tdiv, Int.tdiv_eq_ediv_of_nonneg (by omega)]; rfl
    rw [e1, e2]
    refine ⟨by omega, by omega, fun h2 => ?_, fun _ => ⟨by omega, by omega⟩⟩
    have : k = 0 := by omega
    subst this; simp

set_option maxHeartbeats 1000000 in
set_option maxRecDepth 100000 in
theorem fmtS_any (n : Int) (hn : InR n) (w : World) :
    Calls Tryz.prog 75 #[.int .i64 n] w fun e w' => e = .returned (.string (itoaB n)) ∧ Below w.heap.size w w' := by
  have hk : n.natAbs < 10 ^ 20 := by have := hn.1; have := hn.2; omega
  by_cases hn0 : n = 0
  · subst hn0
    go_enter Tryz.func75, Tryz.ntmps75
    go_wp2
    go_ret
    exact ⟨ret_str itoaB_zero.symm, Below.refl _ _⟩
  · have hne : (n == 0) = false := by simpa using hn0
    by_cases hneg : n < 0
    · have hlt : decide (n < 0) = true := decide_eq_true hneg
      go_enter Tryz.func75, Tryz.ntmps75
      go_wp2_with fail
      go_loopw [0, 3] (fun nv sv wr => ∃ (m : Int) (b : ByteArray), nv = .int .i64 m ∧ sv = .string b ∧ (n < 0 → m ≤ 0) ∧ (0 < n → 0 ≤ m) ∧ InR m ∧ digs m.natAbs ++ b.data.toList = digs n.natAbs ∧ Below w.heap.size w wr) (fun nv _ _ => (intOf nv).natAbs)
      case atStart => exact ⟨n, ⟨#[]⟩, rfl, rfl, fun h => by omega, fun h => by omega, hn, by simp, Below.refl _ _⟩
      case round =>
        obtain ⟨m, b, rfl, rfl, hs1, hs2, hmr, hd, B⟩ := hrel
        have hbs := digs_fit _ _ b hk hd
        have HD := Lib.hid hd
        clear hd
        by_cases hm0 : m = 0
        · subst hm0
          have hbd : b.data.toList = digs n.natAbs := by simpa [digs] using HD.out
          have HBD := Lib.hid hbd
          clear hbd HD hs1 hs2 hmr
          go_wp2
          go_ret
          exact ⟨ret_str ((congrArg itoaB (show n = -(n.natAbs : Int) by omega)).trans (itoaB_neg n.natAbs b (by omega) HBD.out)).symm, B⟩
        · have ht := tdm m
          have hmn : (m == 0) = false := by simpa using hm0
          obtain ⟨d, hdm⟩ : ∃ d, Int.tmod m 10 = d := ⟨_, rfl⟩
          obtain ⟨q, hqm⟩ : ∃ q, Int.tdiv m 10 = q := ⟨_, rfl⟩
          rw [hdm, hqm] at ht
          obtain ⟨t1, t2, t3, t4⟩ := ht
          have hmore := digs_more m.natAbs n.natAbs b (by omega) HD.out
          rw [← t1, ← t2] at hmore
          have hq1 : InR q := by
            have := hmr.1; have := hmr.2
            exact ⟨by omega, by omega⟩
          have wq : IntKind.i64.wrap q = q := by rw [IntKind.wrap_i64]; have := hq1.1; have := hq1.2; omega
          have hqs1 : n < 0 → q ≤ 0 := fun h => (t4 (hs1 h)).2
          have hqs2 : 0 < n → 0 ≤ q := fun h => (t3 (hs2 h)).2
          have hdb : d.natAbs < 10 := by omega
          have hms : q.natAbs < m.natAbs := by omega
          obtain ⟨r, hr⟩ : ∃ r : Nat, r = d.natAbs := ⟨_, rfl⟩
          rw [← hr] at hmore hdb
          rw [dig8] at hmore
          have HM := Lib.hid hmore
          have HS1 := Lib.hid hqs1
          have HS2 := Lib.hid hqs2
          have hu : (48 + (r : Int)) % 256 = 48 + r := by omega
          have hu2 : IntKind.u8.wrap (48 + (r : Int)) = 48 + r := by simp [IntKind.wrap, IntKind.bits, IntKind.signed]; omega
          have hcv := cv1 wr r hdb
          have w48 : IntKind.i64.wrap (48 + (r : Int)) = 48 + r := by rw [IntKind.wrap_i64]; omega
          clear hmore hqs1 hqs2 HD hs1 hs2 t1 t2 t3 t4
          by_cases hdn : d < 0
          · have hnd : IntKind.i64.wrap (-d) = (r : Int) := by rw [IntKind.wrap_i64]; omega
            clear hr
            go_wp2
            go_roundw
            case rel => exact ⟨q, _, rfl, rfl, HS1.out, HS2.out, hq1, HM.out, B.alloc B.size _⟩
            case measure => simp [intOf]; omega
          · have hdr : d = (r : Int) := by omega
            subst hdr
            clear hr hdn
            go_wp2
            go_roundw
            case rel => exact ⟨q, _, rfl, rfl, HS1.out, HS2.out, hq1, HM.out, B.alloc B.size _⟩
            case measure => simp [intOf]; omega
    · have hlt : decide (n < 0) = false := decide_eq_false hneg
      go_enter Tryz.func75, Tryz.ntmps75
      go_wp2_with fail
      go_loopw [0, 3] (fun nv sv wr => ∃ (m : Int) (b : ByteArray), nv = .int .i64 m ∧ sv = .string b ∧ (n < 0 → m ≤ 0) ∧ (0 < n → 0 ≤ m) ∧ InR m ∧ digs m.natAbs ++ b.data.toList = digs n.natAbs ∧ Below w.heap.size w wr) (fun nv _ _ => (intOf nv).natAbs)
      case atStart => exact ⟨n, ⟨#[]⟩, rfl, rfl, fun h => by omega, fun h => by omega, hn, by simp, Below.refl _ _⟩
      case round =>
        obtain ⟨m, b, rfl, rfl, hs1, hs2, hmr, hd, B⟩ := hrel
        have hbs := digs_fit _ _ b hk hd
        have HD := Lib.hid hd
        clear hd
        by_cases hm0 : m = 0
        · subst hm0
          have hbd : b.data.toList = digs n.natAbs := by simpa [digs] using HD.out
          have HBD := Lib.hid hbd
          clear hbd HD hs1 hs2 hmr
          go_wp2
          go_ret
          exact ⟨ret_str ((congrArg itoaB (show n = (n.natAbs : Int) by omega)).trans (itoaB_pos n.natAbs b (by omega) HBD.out)).symm, B⟩
        · have ht := tdm m
          have hmn : (m == 0) = false := by simpa using hm0
          obtain ⟨d, hdm⟩ : ∃ d, Int.tmod m 10 = d := ⟨_, rfl⟩
          obtain ⟨q, hqm⟩ : ∃ q, Int.tdiv m 10 = q := ⟨_, rfl⟩
          rw [hdm, hqm] at ht
          obtain ⟨t1, t2, t3, t4⟩ := ht
          have hmore := digs_more m.natAbs n.natAbs b (by omega) HD.out
          rw [← t1, ← t2] at hmore
          have hq1 : InR q := by
            have := hmr.1; have := hmr.2
            exact ⟨by omega, by omega⟩
          have wq : IntKind.i64.wrap q = q := by rw [IntKind.wrap_i64]; have := hq1.1; have := hq1.2; omega
          have hqs1 : n < 0 → q ≤ 0 := fun h => (t4 (hs1 h)).2
          have hqs2 : 0 < n → 0 ≤ q := fun h => (t3 (hs2 h)).2
          have hdb : d.natAbs < 10 := by omega
          have hms : q.natAbs < m.natAbs := by omega
          obtain ⟨r, hr⟩ : ∃ r : Nat, r = d.natAbs := ⟨_, rfl⟩
          rw [← hr] at hmore hdb
          rw [dig8] at hmore
          have HM := Lib.hid hmore
          have HS1 := Lib.hid hqs1
          have HS2 := Lib.hid hqs2
          have hu : (48 + (r : Int)) % 256 = 48 + r := by omega
          have hu2 : IntKind.u8.wrap (48 + (r : Int)) = 48 + r := by simp [IntKind.wrap, IntKind.bits, IntKind.signed]; omega
          have hcv := cv1 wr r hdb
          have w48 : IntKind.i64.wrap (48 + (r : Int)) = 48 + r := by rw [IntKind.wrap_i64]; omega
          clear hmore hqs1 hqs2 HD hs1 hs2 t1 t2 t3 t4
          by_cases hdn : d < 0
          · have hnd : IntKind.i64.wrap (-d) = (r : Int) := by rw [IntKind.wrap_i64]; omega
            clear hr
            go_wp2
            go_roundw
            case rel => exact ⟨q, _, rfl, rfl, HS1.out, HS2.out, hq1, HM.out, B.alloc B.size _⟩
            case measure => simp [intOf]; omega
          · have hdr : d = (r : Int) := by omega
            subst hdr
            clear hr hdn
            go_wp2
            go_roundw
            case rel => exact ⟨q, _, rfl, rfl, HS1.out, HS2.out, hq1, HM.out, B.alloc B.size _⟩
            case measure => simp [intOf]; omega
end Go.Proofs.YtipejodijbjpcaaGreatDoor
end
