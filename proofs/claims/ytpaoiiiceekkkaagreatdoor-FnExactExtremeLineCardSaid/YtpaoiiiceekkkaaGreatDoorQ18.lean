/- Texts: numerals and joined lists, in plain words. Numerals: the second program. Contracts of the library at this program, laid by the kit's commands. -/
import Derived.Test.YtpaoiiiceekkkaaGreatDoorQ17
import Derived.Lib.ItoaNum
import Derived.Lib.Join
import Derived.Lib.SmallJoins
import Derived.Laws.IdiomStrings
import Derived.Shelf.Strings.Builder1
import Derived.Shelf.Strings.Builder2
import Derived.Shelf.Strings.OnBuilder
import Derived.Shelf.Small.Bits
import Derived.Shelf.Small.Wraps
import Derived.Shelf.Strings.BuilderF
import Derived.Shelf.Strings.BuilderK
import Derived.Shelf.Utf8.RuneCount
import Derived.Shelf.Strings.Builder2Cap
import Derived.Shelf.Strconv.Itoa0
import Derived.Shelf.Strconv.Itoa1
import Derived.Shelf.LaysM
import Derived.Shelf.Strconv.Itoa2
import Derived.Shelf.Strconv.Itoa3
import Derived.Shelf.Strings.Search1
import Derived.Shelf.Strings.Search2
import Derived.Shelf.Strings.Search3
import Derived.Shelf.Strings.Count
import Derived.Shelf.Strings.Shaped
import Derived.Shelf.Sort.Plain
import Derived.Shelf.Strings.Prefix
import Derived.Shelf.Strings.Split
import Derived.Shelf.Strings.SplitShaped
import Derived.Shelf.Unicode.Decode
import Derived.Shelf.Strings.RuneCount
import Derived.Shelf.Strings.Explode
import Derived.Shelf.Unicode.DecodeSlow
import Derived.Shelf.Unicode.DecodeAny
import Derived.Shelf.Slices.Turned
import Derived.Shelf.Slices.Equal
import Derived.Ground.Names2Prog
import Derived.Shelf.Slices.Clone
import Derived.Shelf.Slices.CompactI
import Derived.Shelf.Slices.SearchI
import Derived.Shelf.Slices.Cells
import Derived.Shelf.Slices.In.SortNone
import Derived.Shelf.Slices.Empties
import Derived.Shelf.Slices.Empties2
import Derived.Ground.SlgnProg
import Derived.Shelf.SlicesE.Clone
import Derived.Test.YtpaoiiiceekkkaaGreatDoorProg
section
namespace Go.G5
open Go

theorem ba_ext {a b : ByteArray} (h : a.data.toList = b.data.toList) : a = b := by
  cases a; cases b; congr 1; exact Array.toList_inj.1 h
theorem ba_mk (l : List UInt8) : (⟨l.toArray⟩ : ByteArray).data.toList = l := rfl
theorem ba_app (a b : ByteArray) : (a ++ b).data.toList = a.data.toList ++ b.data.toList := by rw [ByteArray.data_append, Array.toList_append]
theorem ba_size (a : ByteArray) : a.size = a.data.toList.length := Lib.size_eq a
theorem ba_emp {a : ByteArray} : a.size = 0 ↔ a = ByteArray.empty := by
  constructor
  · intro h
    rw [ba_size] at h
    exact ba_ext (by rw [List.eq_nil_of_length_eq_zero h]; rfl)
  · rintro rfl; rfl

/-- the numeral of n -/
def itoaB (n : Int) : ByteArray := ⟨(Lib.itoa n).toArray⟩
/-- the parts, with sep between -/
def joinB (sep : ByteArray) (xs : List ByteArray) : ByteArray := ⟨(Lib.join (xs.map (·.data.toList)) sep.data.toList).toArray⟩

theorem joinB_nil (sep : ByteArray) : joinB sep [] = ByteArray.empty := rfl
theorem joinB_one (sep x : ByteArray) : joinB sep [x] = x := ba_ext (by
  show Lib.join [x.data.toList] sep.data.toList = _
  rw [Lib.join_one])
theorem joinTail_app (sep : List UInt8) (r s : List (List UInt8)) : Lib.joinTail sep (r ++ s) = Lib.joinTail sep r ++ Lib.joinTail sep s := by
  simp [Lib.joinTail]
theorem joinB_snoc (sep : ByteArray) (xs : List ByteArray) (y : ByteArray) (h : xs ≠ []) : joinB sep (xs ++ [y]) = joinB sep xs ++ sep ++ y := by
  cases xs with
  | nil => exact absurd rfl h
  | cons x r =>
    refine ba_ext ?_
    rw [ba_app, ba_app]
    show Lib.join ((x :: (r ++ [y])).map (·.data.toList)) sep.data.toList = Lib.join ((x :: r).map (·.data.toList)) sep.data.toList ++ sep.data.toList ++ y.data.toList
    rw [List.map_cons, List.map_cons, Lib.join_cons, Lib.join_cons, List.map_append, joinTail_app]
    simp [Lib.joinTail, List.append_assoc]
theorem joinB_size (sep : ByteArray) (m : Nat) : ∀ (xs : List ByteArray), (∀ x ∈ xs, x.size ≤ m) → (joinB sep xs).size ≤ xs.length * (m + sep.size)
  | [], _ => by simp [joinB_nil]
  | x :: r, h => by
    have h1 := h x (by simp)
    have h2 : Lib.lens (r.map (·.data.toList)) ≤ r.length * m := by
      have : ∀ (s : List ByteArray), (∀ x ∈ s, x.size ≤ m) → Lib.lens (s.map (·.data.toList)) ≤ s.length * m := by
        intro s hs
        induction s with
        | nil => simp [Lib.lens]
        | cons y s ih =>
          have a := hs y (by simp)
          have b := ih (fun z hz => hs z (by simp [hz]))
          rw [ba_size] at a
          simp only [Lib.lens, List.map_cons, List.sum_cons, List.length_cons] at b ⊢
          rw [Nat.succ_mul]
          omega
      exact this r (fun z hz => h z (by simp [hz]))
    rw [ba_size] at h1 ⊢
    show (Lib.join ((x :: r).map (·.data.toList)) sep.data.toList).length ≤ _
    rw [List.map_cons, Lib.join_cons, List.length_append, Lib.joinTail_length, List.length_map, List.length_cons, Nat.succ_mul, ba_size sep, Nat.mul_add, Nat.mul_comm sep.data.toList.length]
    omega
theorem joinB_ne (sep : ByteArray) (x : ByteArray) (r : List ByteArray) (h : x ≠ ByteArray.empty) : joinB sep (x :: r) ≠ ByteArray.empty := by
  intro e
  have := congrArg (fun a => a.data.toList) e
  have h0 : x.data.toList = [] := by
    change Lib.join ((x :: r).map (·.data.toList)) sep.data.toList = [] at this
    rw [List.map_cons, Lib.join_cons] at this
    exact (List.append_eq_nil_iff.1 this).1
  exact h (ba_ext h0)
/-- the next part behind those that are joined -/
theorem joinB_take (sep : ByteArray) (xs : List ByteArray) (k : Nat) (h : k < xs.length) : joinB sep (xs.take (k + 1)) = if k = 0 then xs[k] else joinB sep (xs.take k) ++ sep ++ xs[k] := by
  rw [List.take_succ_eq_append_getElem h]
  split
  · rename_i h0
    subst h0
    exact joinB_one _ _
  · rename_i h0
    refine joinB_snoc _ _ _ (fun e => ?_)
    have := congrArg List.length e
    rw [List.length_take, List.length_nil] at this
    omega

/-! numerals -/
/-- the digits of u, none of 0 -/
def digs (u : Nat) : List UInt8 := if u = 0 then [] else Lib.decDigits u
theorem digs_step (u : Nat) (h : 0 < u) : digs u = digs (u / 10) ++ [UInt8.ofNat (48 + u % 10)] := by
  unfold digs
  rw [if_neg (show ¬ u = 0 by omega), Lib.decDigits]
  split
  · rename_i h1
    rw [if_pos (show u / 10 = 0 by omega), Nat.mod_eq_of_lt h1]; rfl
  · rename_i h1
    rw [if_neg (show ¬ u / 10 = 0 by omega)]
theorem decDigits_len : ∀ (k u : Nat), u < 10 ^ k → 0 < k → (Lib.decDigits u).length ≤ k
  | 0, _, _, h => by omega
  | k + 1, u, h, _ => by
    rw [Lib.decDigits]
    split
    · simp
    · rename_i h1
      have : u / 10 < 10 ^ k := by rw [Nat.pow_succ] at h; omega
      have hk : 0 < k := by
        rcases Nat.eq_zero_or_pos k with rfl | h2
        · simp at h; omega
        · exact h2
      have := decDigits_len k (u / 10) this hk
      simp; omega
theorem decDigits_ne (u : Nat) : Lib.decDigits u ≠ [] := by
  rw [Lib.decDigits]
  split <;> simp
theorem itoaB_size (n : Int) (h : -9223372036854775808 ≤ n ∧ n ≤ 9223372036854775807) : (itoaB n).size ≤ 21 := by
  rw [ba_size]
  show (Lib.itoa n).length ≤ 21
  unfold Lib.itoa
  split
  · have := decDigits_len 20 n.natAbs (by omega) (by omega)
    simp; omega
  · have := decDigits_len 20 n.toNat (by omega) (by omega)
    omega
theorem itoaB_ne (n : Int) : itoaB n ≠ ByteArray.empty := by
  intro e
  have h : Lib.itoa n = [] := congrArg (fun a => a.data.toList) e
  unfold Lib.itoa at h
  split at h
  · cases h
  · exact decDigits_ne _ h
end Go.G5
end
section
namespace Go.Proofs.YtpaoiiiceekkkaaGreatDoor
open Go.RowKit Go.G5

theorem cv1 (w : World) (r : Nat) (hr : r < 10) : (convert 120 9 (.slice (some ⟨w.heap.size, 0, none⟩) 1 1)).run Tryz.prog (w.alloc (.cells #[.int .u8 (48 + (r : Int))] 5)) = .ok (.string ⟨#[UInt8.ofNat (48 + r)]⟩) (w.alloc (.cells #[.int .u8 (48 + (r : Int))] 5)) := by
  refine run_convert_bytes_back (P := Tryz.prog) _ 120 9 5 ⟨w.heap.size, 0, none⟩ 1 [UInt8.ofNat (48 + r)] Tryz.underlying120 Tryz.underlying5 Tryz.underlying9 ?_
  intro j hj
  have hj0 : j = 0 := by simpa using hj
  subst hj0
  have h1 : (UInt8.ofNat (48 + r)).toNat = 48 + r := by
    rw [UInt8.toNat_ofNat']; omega
  show (w.alloc _).cell? ⟨w.heap.size, 0, none⟩ = some (.int .u8 ((UInt8.ofNat (48 + r)).toNat : Int))
  rw [cell_new w _ _ 0 (.int .u8 (48 + (r : Int))) rfl, h1]
  congr 2
theorem dig8 (r : Nat) : UInt8.ofNat (48 + r) = 48 + UInt8.ofNat r := by simp
theorem ret_str {a b : ByteArray} (h : a = b) : Ending.returned (.string a) = .returned (.string b) := by rw [h]
theorem itoaB_zero : itoaB 0 = ⟨#[48]⟩ := by
  refine ba_ext ?_
  show Lib.itoa 0 = [48]
  unfold Lib.itoa
  rw [if_neg (by decide), Lib.decDigits]; rfl
theorem itoaB_pos (k : Nat) (b : ByteArray) (h : 0 < k) (hb : b.data.toList = digs k) : itoaB (k : Int) = b := by
  refine ba_ext ?_
  rw [hb]
  show Lib.itoa (k : Int) = _
  unfold Lib.itoa digs
  rw [if_neg (by omega), if_neg (by omega), Int.toNat_natCast]
theorem itoaB_neg (k : Nat) (b : ByteArray) (h : 0 < k) (hb : b.data.toList = digs k) : itoaB (-(k : Int)) = ⟨#[45]⟩ ++ b := by
  refine ba_ext ?_
  rw [ba_app, hb]
  show Lib.itoa (-(k : Int)) = [45] ++ _
  unfold Lib.itoa digs
  rw [if_pos (by omega), if_neg (by omega), Int.natAbs_neg, Int.natAbs_natCast]; rfl
theorem digs_len (k : Nat) (h : k < 10 ^ 20) : (digs k).length ≤ 20 := by
  unfold digs
  split
  · simp
  · exact decDigits_len 20 k h (by decide)
theorem digs_more (j k : Nat) (b : ByteArray) (hj : 0 < j) (h : digs j ++ b.data.toList = digs k) : digs (j / 10) ++ ((⟨#[UInt8.ofNat (48 + j % 10)]⟩ : ByteArray) ++ b).data.toList = digs k := by
  rw [ba_app, ← h, digs_step j hj, List.append_assoc]
theorem digs_fit (j k : Nat) (b : ByteArray) (hk : k < 10 ^ 20) (h : digs j ++ b.data.toList = digs k) : b.size ≤ 20 := by
  have h1 := digs_len k hk
  rw [← h, List.length_append] at h1
  rw [ba_size]; omega

theorem tdm (m : Int) : (Int.tmod m 10).natAbs = m.natAbs % 10 ∧ (Int.tdiv m 10).natAbs = m.natAbs / 10 ∧ (0 ≤ m → 0 ≤ Int.tmod m 10 ∧ 0 ≤ Int.tdiv m 10) ∧ (m ≤ 0 → Int.tmod m 10 ≤ 0 ∧ Int.tdiv m 10 ≤ 0) := by
  rcases Int.le_total 0 m with h | h
  · obtain ⟨k, rfl⟩ := Int.eq_ofNat_of_zero_le h
    have e1 : Int.tmod (k : Int) 10 = ((k % 10 : Nat) : Int) := by rw [Int.tmod_eq_emod_of_nonneg (by omega)]; rfl
    have e2 : Int.tdiv (k : Int) 10 = ((k / 10 : Nat) : Int) := by rw [Int.tdiv_eq_ediv_of_nonneg (by omega)]; rfl
    rw [e1, e2]
    refine ⟨by omega, by omega, fun _ => ⟨by omega, by omega⟩, fun h2 => ?_⟩
    have : k = 0 := by omega
    subst this; simp
  · obtain ⟨k, rfl⟩ : ∃ k : Nat, m = -(k : Int) := ⟨m.natAbs, by omega⟩
    have e1 : Int.tmod (-(k : Int)) 10 = -((k % 10 : Nat) : Int) := by rw [Int.neg_tmod, Int.tmod_eq_emod_of_nonneg (by omega)]; rfl
    have e2 : Int.tdiv (-(k : Int)) 10 = -((k / 10 : Nat) : Int) := by rw [Int.neg_tdiv, Int.tdiv_eq_ediv_of_nonneg (by omega)]; rfl
    rw [e1, e2]
    refine ⟨by omega, by omega, fun h2 => ?_, fun _ => ⟨by omega, by omega⟩⟩
    have : k = 0 := by omega
    subst this; simp

set_option maxHeartbeats 1000000 in
set_option maxRecDepth 100000 in
theorem fmtS_any (n : Int) (hn : InR n) (w : World) :
    Calls Tryz.prog 50 #[.int .i64 n] w fun e w' => e = .returned (.string (itoaB n)) ∧ Below w.heap.size w w' := by
  have hk : n.natAbs < 10 ^ 20 := by have := hn.1; have := hn.2; omega
  by_cases hn0 : n = 0
  · subst hn0
    go_enter Tryz.func50, Tryz.ntmps50
    go_wp2
    go_ret
    exact ⟨ret_str itoaB_zero.symm, Below.refl _ _⟩
  · have hne : (n == 0) = false := by simpa using hn0
    by_cases hneg : n < 0
    · have hlt : decide (n < 0) = true := decide_eq_true hneg
      go_enter Tryz.func50, Tryz.ntmps50
      go_wp2_with fail
      go_loopw [0, 3] (fun nv sv wr => ∃ (m : Int) (b : ByteArray), nv = .int .i64 m ∧ sv = .string b ∧ (n < 0 → m ≤ 0) ∧ (0 < n → 0 ≤ m) ∧ InR m ∧ digs m.natAbs ++ b.data.toList = digs n.natAbs ∧ Below w.heap.size w wr) (fun nv _ _ => (intOf nv).natAbs)
      case atStart => exact ⟨n, ⟨#[]⟩, rfl, rfl, fun h => by omega, fun h => by omega, hn, by simp, Below.refl _ _⟩
      case round =>
        obtain ⟨m, b, rfl, rfl, hs1, hs2, hmr, hd, B⟩ := hrel
        have hbs := digs_fit _ _ b hk hd
        have HD := Lib.hid hd
        clear hd
        by_cases hm0 : m = 0
        · subst hm0
          have hbd : b.data.toList = digs n.natAbs := by simpa [digs] using HD.out
          have HBD := Lib.hid hbd
          clear hbd HD hs1 hs2 hmr
          go_wp2
          go_ret
          exact ⟨ret_str ((congrArg itoaB (show n = -(n.natAbs : Int) by omega)).trans (itoaB_neg n.natAbs b (by omega) HBD.out)).symm, B⟩
        · have ht := tdm m
          have hmn : (m == 0) = false := by simpa using hm0
          obtain ⟨d, hdm⟩ : ∃ d, Int.tmod m 10 = d := ⟨_, rfl⟩
          obtain ⟨q, hqm⟩ : ∃ q, Int.tdiv m 10 = q := ⟨_, rfl⟩
          rw [hdm, hqm] at ht
          obtain ⟨t1, t2, t3, t4⟩ := ht
          have hmore := digs_more m.natAbs n.natAbs b (by omega) HD.out
          rw [← t1, ← t2] at hmore
          have hq1 : InR q := by
            have := hmr.1; have := hmr.2
            exact ⟨by omega, by omega⟩
          have wq : IntKind.i64.wrap q = q := by rw [IntKind.wrap_i64]; have := hq1.1; have := hq1.2; omega
          have hqs1 : n < 0 → q ≤ 0 := fun h => (t4 (hs1 h)).2
          have hqs2 : 0 < n → 0 ≤ q := fun h => (t3 (hs2 h)).2
          have hdb : d.natAbs < 10 := by omega
          have hms : q.natAbs < m.natAbs := by omega
          obtain ⟨r, hr⟩ : ∃ r : Nat, r = d.natAbs := ⟨_, rfl⟩
          rw [← hr] at hmore hdb
          rw [dig8] at hmore
          have HM := Lib.hid hmore
          have HS1 := Lib.hid hqs1
          have HS2 := Lib.hid hqs2
          have hu : (48 + (r : Int)) % 256 = 48 + r := by omega
          have hu2 : IntKind.u8.wrap (48 + (r : Int)) = 48 + r := by simp [IntKind.wrap, IntKind.bits, IntKind.signed]; omega
          have hcv := cv1 wr r hdb
          have w48 : IntKind.i64.wrap (48 + (r : Int)) = 48 + r := by rw [IntKind.wrap_i64]; omega
          clear hmore hqs1 hqs2 HD hs1 hs2 t1 t2 t3 t4
          by_cases hdn : d < 0
          · have hnd : IntKind.i64.wrap (-d) = (r : Int) := by rw [IntKind.wrap_i64]; omega
            clear hr
            go_wp2
            go_roundw
            case rel => exact ⟨q, _, rfl, rfl, HS1.out, HS2.out, hq1, HM.out, B.alloc B.size _⟩
            case measure => simp [intOf]; omega
          · have hdr : d = (r : Int) := by omega
            subst hdr
            clear hr hdn
            go_wp2
            go_roundw
            case rel => exact ⟨q, _, rfl, rfl, HS1.out, HS2.out, hq1, HM.out, B.alloc B.size _⟩
            case measure => simp [intOf]; omega
    · have hlt : decide (n < 0) = false := decide_eq_false hneg
      go_enter Tryz.func50, Tryz.ntmps50
      go_wp2_with fail
      go_loopw [0, 3] (fun nv sv wr => ∃ (m : Int) (b : ByteArray), nv = .int .i64 m ∧ sv = .string b ∧ (n < 0 → m ≤ 0) ∧ (0 < n → 0 ≤ m) ∧ InR m ∧ digs m.natAbs ++ b.data.toList = digs n.natAbs ∧ Below w.heap.size w wr) (fun nv _ _ => (intOf nv).natAbs)
      case atStart => exact ⟨n, ⟨#[]⟩, rfl, rfl, fun h => by omega, fun h => by omega, hn, by simp, Below.refl _ _⟩
      case round =>
        obtain ⟨m, b, rfl, rfl, hs1, hs2, hmr, hd, B⟩ := hrel
        have hbs := digs_fit _ _ b hk hd
        have HD := Lib.hid hd
        clear hd
        by_cases hm0 : m = 0
        · subst hm0
          have hbd : b.data.toList = digs n.natAbs := by simpa [digs] using HD.out
          have HBD := Lib.hid hbd
          clear hbd HD hs1 hs2 hmr
          go_wp2
          go_ret
          exact ⟨ret_str ((congrArg itoaB (show n = (n.natAbs : Int) by omega)).trans (itoaB_pos n.natAbs b (by omega) HBD.out)).symm, B⟩
        · have ht := tdm m
          have hmn : (m == 0) = false := by simpa using hm0
          obtain ⟨d, hdm⟩ : ∃ d, Int.tmod m 10 = d := ⟨_, rfl⟩
          obtain ⟨q, hqm⟩ : ∃ q, Int.tdiv m 10 = q := ⟨_, rfl⟩
          rw [hdm, hqm] at ht
          obtain ⟨t1, t2, t3, t4⟩ := ht
          have hmore := digs_more m.natAbs n.natAbs b (by omega) HD.out
          rw [← t1, ← t2] at hmore
          have hq1 : InR q := by
            have := hmr.1; have := hmr.2
            exact ⟨by omega, by omega⟩
          have wq : IntKind.i64.wrap q = q := by rw [IntKind.wrap_i64]; have := hq1.1; have := hq1.2; omega
          have hqs1 : n < 0 → q ≤ 0 := fun h => (t4 (hs1 h)).2
          have hqs2 : 0 < n → 0 ≤ q := fun h => (t3 (hs2 h)).2
          have hdb : d.natAbs < 10 := by omega
          have hms : q.natAbs < m.natAbs := by omega
          obtain ⟨r, hr⟩ : ∃ r : Nat, r = d.natAbs := ⟨_, rfl⟩
          rw [← hr] at hmore hdb
          rw [dig8] at hmore
          have HM := Lib.hid hmore
          have HS1 := Lib.hid hqs1
          have HS2 := Lib.hid hqs2
          have hu : (48 + (r : Int)) % 256 = 48 + r := by omega
          have hu2 : IntKind.u8.wrap (48 + (r : Int)) = 48 + r := by simp [IntKind.wrap, IntKind.bits, IntKind.signed]; omega
          have hcv := cv1 wr r hdb
          have w48 : IntKind.i64.wrap (48 + (r : Int)) = 48 + r := by rw [IntKind.wrap_i64]; omega
          clear hmore hqs1 hqs2 HD hs1 hs2 t1 t2 t3 t4
          by_cases hdn : d < 0
          · have hnd : IntKind.i64.wrap (-d) = (r : Int) := by rw [IntKind.wrap_i64]; omega
            clear hr
            go_wp2
            go_roundw
            case rel => exact ⟨q, _, rfl, rfl, HS1.out, HS2.out, hq1, HM.out, B.alloc B.size _⟩
            case measure => simp [intOf]; omega
          · have hdr : d = (r : Int) := by omega
            subst hdr
            clear hr hdn
            go_wp2
            go_roundw
            case rel => exact ⟨q, _, rfl, rfl, HS1.out, HS2.out, hq1, HM.out, B.alloc B.size _⟩
            case measure => simp [intOf]; omega
end Go.Proofs.YtpaoiiiceekkkaaGreatDoor
end
section
namespace Go.Proofs.YtpaoiiiceekkkaaGreatDoor
open Go.Shelf
set_option maxRecDepth 100000
def sh_lays156_ren : Go.Shelf.Ren := ⟨fun | 156 => 137 | 165 => 216 | 166 => 217 | 169 => 218 | 240 => 257 | 241 => 258 | 276 => 280 | 277 => 281 | n => n, fun | 31 => 72 | 9 => 9 | 3 => 3 | 4 => 4 | 0 => 0 | 20 => 20 | 72 => 152 | 76 => 156 | 70 => 150 | 37 => 120 | 75 => 155 | 127 => 166 | 164 => 176 | 5 => 5 | 80 => 76 | n => n, fun | n => n⟩
theorem sh_lays156 : Go.Proofs.Lays.n156 Tryz.prog sh_lays156_ren := {
  mixed := by kernel_rfl
  f156 := Tryz.func137.trans (congrArg some (by kernel_rfl))
  f165 := Tryz.func216.trans (congrArg some (by kernel_rfl))
  f166 := Tryz.func217.trans (congrArg some (by kernel_rfl))
  f169 := Tryz.func218.trans (congrArg some (by kernel_rfl))
  f240 := Tryz.func257.trans (congrArg some (by kernel_rfl))
  f241 := Tryz.func258.trans (congrArg some (by kernel_rfl))
  f276 := Tryz.func280.trans (congrArg some (by kernel_rfl))
  f277 := Tryz.func281.trans (congrArg some (by kernel_rfl))
  t0 := Tryz.underlying0
  a0 := Tryz.isAgg0
  z0 := Tryz.sizeOf0
  v0 := Tryz.zeroValue0
  t3 := Tryz.underlying3
  a3 := Tryz.isAgg3
  z3 := Tryz.sizeOf3
  v3 := Tryz.zeroValue3
  t4 := Tryz.underlying4
  a4 := Tryz.isAgg4
  z4 := Tryz.sizeOf4
  v4 := Tryz.zeroValue4
  t9 := Tryz.underlying9
  a9 := Tryz.isAgg9
  z9 := Tryz.sizeOf9
  v9 := Tryz.zeroValue9
  t20 := Tryz.underlying20
  a20 := Tryz.isAgg20
  z20 := Tryz.sizeOf20
  v20 := Tryz.zeroValue20
  t31 := Tryz.underlying72
  a31 := Tryz.isAgg72
  z31 := Tryz.sizeOf72
  v31 := Tryz.zeroValue72
  t37 := Tryz.underlying120
  a37 := Tryz.isAgg120
  z37 := Tryz.sizeOf120
  v37 := Tryz.zeroValue120
  t70 := Tryz.underlying150
  a70 := Tryz.isAgg150
  z70 := Tryz.sizeOf150
  v70 := Tryz.zeroValue150
  t72 := Tryz.underlying152
  a72 := Tryz.isAgg152
  z72 := Tryz.sizeOf152
  v72 := Tryz.zeroValue152
  t75 := Tryz.underlying155
  a75 := Tryz.isAgg155
  z75 := Tryz.sizeOf155
  v75 := Tryz.zeroValue155
  t76 := Tryz.underlying156
  a76 := Tryz.isAgg156
  z76 := Tryz.sizeOf156
  v76 := Tryz.zeroValue156
  t127 := Tryz.underlying166
  a127 := Tryz.isAgg166
  z127 := Tryz.sizeOf166
  v127 := Tryz.zeroValue166
  t164 := Tryz.underlying176
  a164 := Tryz.isAgg176
  z164 := Tryz.sizeOf176
  v164 := Tryz.zeroValue176 }
theorem sh_Builder_Extra_156 : Builder.Extra Tryz.prog sh_lays156_ren := {
  sizeBuilder := by kernel_rfl
  liesBuilder := by kernel_rfl
  t5 := Tryz.underlying5
  a5 := Tryz.isAgg5
  z5 := Tryz.sizeOf5
  v5 := Tryz.zeroValue5
  infoByte := by kernel_rfl
  cellsByte := by kernel_rfl
  sizeByte := by kernel_rfl
  neB5 := by decide }
open Go.RowKit in
theorem sh_strings_Join (bk o c : Nat) (xs : List ByteArray) (sep : ByteArray) (w : World) (hcells : ∀ (j : Nat) x, xs[j]? = some x → w.cell? ⟨bk, o + j, none⟩ = some (.string x)) (hbk : bk < w.heap.size) (hN : xs.length ≤ 140737488355328) (hcap : xs.length ≤ c) (hlen : (Lib.join (xs.map (·.data.toList)) sep.data.toList).length ≤ 140737488355328) :
    Calls Tryz.prog 137 #[.slice (some ⟨bk, o, none⟩) xs.length c, .string sep] w fun e w' => e = .returned (.string ⟨(Lib.join (xs.map (·.data.toList)) sep.data.toList).toArray⟩) ∧ Below w.heap.size w w' := Any.strings_Join sh_lays156 sh_Builder_Extra_156 bk o c xs sep w hcells hbk hN hcap hlen
open Go.RowKit in
theorem sh_strings_Join_none (a : Option Addr) (c : Nat) (sep : ByteArray) (w : World) :
    Calls Tryz.prog 137 #[.slice a 0 c, .string sep] w fun e w' => e = .returned (.string ⟨#[]⟩) ∧ w' = w := Any.strings_Join_none sh_lays156 sh_Builder_Extra_156 a c sep w
def sh_laysM171_ren : Go.Shelf.Ren := ⟨fun | 171 => 232 | 243 => 264 | 246 => 293 | 283 => 310 | 284 => 311 | 285 => 312 | 286 => 313 | 129 => 201 | 317 => 318 | 318 => 319 | 319 => 320 | 320 => 321 | 337 => 324 | 338 => 325 | n => n, fun | 3 => 3 | 9 => 9 | 2 => 2 | 4 => 4 | 171 => 194 | 0 => 0 | 53 => 142 | 37 => 120 | 5 => 5 | 173 => 196 | 212 => 208 | 51 => 140 | 20 => 20 | 213 => 209 | 46 => 94 | 232 => 212 | 233 => 213 | n => n, fun | 17 => 3 | 18 => 4 | 19 => 5 | n => n⟩
theorem sh_laysM171 : Go.Proofs.LaysM.n171 Tryz.prog sh_laysM171_ren := {
  mixed := by kernel_rfl
  f129 := Tryz.func201.trans (congrArg some (by kernel_rfl))
  f171 := Tryz.func232.trans (congrArg some (by kernel_rfl))
  f243 := Tryz.func264.trans (congrArg some (by kernel_rfl))
  f246 := Tryz.func293.trans (congrArg some (by kernel_rfl))
  f283 := Tryz.func310.trans (congrArg some (by kernel_rfl))
  f284 := Tryz.func311.trans (congrArg some (by kernel_rfl))
  f285 := Tryz.func312.trans (congrArg some (by kernel_rfl))
  f286 := Tryz.func313.trans (congrArg some (by kernel_rfl))
  f317 := Tryz.func318.trans (congrArg some (by kernel_rfl))
  f318 := Tryz.func319.trans (congrArg some (by kernel_rfl))
  f319 := Tryz.func320.trans (congrArg some (by kernel_rfl))
  f320 := Tryz.func321.trans (congrArg some (by kernel_rfl))
  f337 := Tryz.func324.trans (congrArg some (by kernel_rfl))
  f338 := Tryz.func325.trans (congrArg some (by kernel_rfl))
  t0 := Tryz.underlying0
  a0 := Tryz.isAgg0
  z0 := Tryz.sizeOf0
  v0 := Tryz.zeroValue0
  t2 := Tryz.underlying2
  a2 := Tryz.isAgg2
  z2 := Tryz.sizeOf2
  v2 := Tryz.zeroValue2
  t3 := Tryz.underlying3
  a3 := Tryz.isAgg3
  z3 := Tryz.sizeOf3
  v3 := Tryz.zeroValue3
  t4 := Tryz.underlying4
  a4 := Tryz.isAgg4
  z4 := Tryz.sizeOf4
  v4 := Tryz.zeroValue4
  t5 := Tryz.underlying5
  a5 := Tryz.isAgg5
  z5 := Tryz.sizeOf5
  v5 := Tryz.zeroValue5
  t9 := Tryz.underlying9
  a9 := Tryz.isAgg9
  z9 := Tryz.sizeOf9
  v9 := Tryz.zeroValue9
  t20 := Tryz.underlying20
  a20 := Tryz.isAgg20
  z20 := Tryz.sizeOf20
  v20 := Tryz.zeroValue20
  t37 := Tryz.underlying120
  a37 := Tryz.isAgg120
  z37 := Tryz.sizeOf120
  v37 := Tryz.zeroValue120
  t46 := Tryz.underlying94
  a46 := Tryz.isAgg94
  z46 := Tryz.sizeOf94
  v46 := Tryz.zeroValue94
  t51 := Tryz.underlying140
  a51 := Tryz.isAgg140
  z51 := Tryz.sizeOf140
  v51 := Tryz.zeroValue140
  t53 := Tryz.underlying142
  a53 := Tryz.isAgg142
  z53 := Tryz.sizeOf142
  v53 := Tryz.zeroValue142
  t171 := Tryz.underlying194
  a171 := Tryz.isAgg194
  z171 := Tryz.sizeOf194
  v171 := Tryz.zeroValue194
  t173 := Tryz.underlying196
  a173 := Tryz.isAgg196
  z173 := Tryz.sizeOf196
  v173 := Tryz.zeroValue196
  t212 := Tryz.underlying208
  a212 := Tryz.isAgg208
  z212 := Tryz.sizeOf208
  v212 := Tryz.zeroValue208
  t213 := Tryz.underlying209
  a213 := Tryz.isAgg209
  z213 := Tryz.sizeOf209
  t232 := Tryz.underlying212
  a232 := Tryz.isAgg212
  z232 := Tryz.sizeOf212
  v232 := Tryz.zeroValue212
  t233 := Tryz.underlying213
  a233 := Tryz.isAgg213
  z233 := Tryz.sizeOf213
  v233 := Tryz.zeroValue213
  g17 := by kernel_rfl
  g18 := by kernel_rfl
  g19 := by kernel_rfl
  i0 := by kernel_rfl
  i2 := by kernel_rfl
  i3 := by kernel_rfl
  i4 := by kernel_rfl
  i5 := by kernel_rfl
  i9 := by kernel_rfl
  i20 := by kernel_rfl
  i37 := by kernel_rfl
  i46 := by kernel_rfl
  i51 := by kernel_rfl
  i53 := by kernel_rfl
  i171 := by kernel_rfl
  i173 := by kernel_rfl
  i212 := by kernel_rfl
  i232 := by kernel_rfl
  i233 := by kernel_rfl
  m17 := by kernel_rfl
  m18 := by kernel_rfl
  m19 := by kernel_rfl }
open Go.RowKit Go.Sort Go.Lib in
theorem sh_strconv_Itoa (n : Int) (h0 : -9223372036854775808 ≤ n) (h1 : n ≤ 9223372036854775807) (w : World) (htab : Lib.TabIs Tryz.prog w "internal/strconv.uint64pow10" .u64 Lib.pow10Tab) :
    Calls Tryz.prog 232 #[.int .i64 n] w fun e w' => e = .returned (.string ⟨(Lib.itoa n).toArray⟩) ∧ ∃ k os, w' = grow (w.drewN k) os := Any.strconv_Itoa sh_laysM171 n h0 h1 w htab
def sh_lays189_ren : Go.Shelf.Ren := ⟨fun | 189 => 221 | 125 => 103 | 257 => 259 | 128 => 200 | 129 => 201 | 294 => 282 | 295 => 283 | 296 => 284 | 297 => 285 | 298 => 286 | 299 => 287 | 216 => 262 | 300 => 288 | 301 => 289 | 328 => 305 | 329 => 306 | 330 => 307 | 331 => 308 | 332 => 309 | 215 => 292 | 343 => 317 | n => n, fun | 28 => 22 | 3 => 3 | 46 => 94 | 0 => 0 | 51 => 140 | 53 => 142 | 4 => 4 | 183 => 181 | 182 => 180 | 131 => 50 | 5 => 5 | 9 => 9 | 218 => 188 | 222 => 192 | 228 => 205 | 229 => 88 | n => n, fun | n => n⟩
theorem sh_lays189 : Go.Proofs.Lays.n189 Tryz.prog sh_lays189_ren := {
  mixed := by kernel_rfl
  f125 := Tryz.func103.trans (congrArg some (by kernel_rfl))
  f128 := Tryz.func200.trans (congrArg some (by kernel_rfl))
  f129 := Tryz.func201.trans (congrArg some (by kernel_rfl))
  f189 := Tryz.func221.trans (congrArg some (by kernel_rfl))
  f215 := Tryz.func292.trans (congrArg some (by kernel_rfl))
  f216 := Tryz.func262.trans (congrArg some (by kernel_rfl))
  f257 := Tryz.func259.trans (congrArg some (by kernel_rfl))
  f294 := Tryz.func282.trans (congrArg some (by kernel_rfl))
  f295 := Tryz.func283.trans (congrArg some (by kernel_rfl))
  f296 := Tryz.func284.trans (congrArg some (by kernel_rfl))
  f297 := Tryz.func285.trans (congrArg some (by kernel_rfl))
  f298 := Tryz.func286.trans (congrArg some (by kernel_rfl))
  f299 := Tryz.func287.trans (congrArg some (by kernel_rfl))
  f300 := Tryz.func288.trans (congrArg some (by kernel_rfl))
  f301 := Tryz.func289.trans (congrArg some (by kernel_rfl))
  f328 := Tryz.func305.trans (congrArg some (by kernel_rfl))
  f329 := Tryz.func306.trans (congrArg some (by kernel_rfl))
  f330 := Tryz.func307.trans (congrArg some (by kernel_rfl))
  f331 := Tryz.func308.trans (congrArg some (by kernel_rfl))
  f332 := Tryz.func309.trans (congrArg some (by kernel_rfl))
  f343 := Tryz.func317.trans (congrArg some (by kernel_rfl))
  t0 := Tryz.underlying0
  a0 := Tryz.isAgg0
  z0 := Tryz.sizeOf0
  v0 := Tryz.zeroValue0
  t3 := Tryz.underlying3
  a3 := Tryz.isAgg3
  z3 := Tryz.sizeOf3
  v3 := Tryz.zeroValue3
  t4 := Tryz.underlying4
  a4 := Tryz.isAgg4
  z4 := Tryz.sizeOf4
  v4 := Tryz.zeroValue4
  t5 := Tryz.underlying5
  a5 := Tryz.isAgg5
  z5 := Tryz.sizeOf5
  v5 := Tryz.zeroValue5
  t9 := Tryz.underlying9
  a9 := Tryz.isAgg9
  z9 := Tryz.sizeOf9
  v9 := Tryz.zeroValue9
  t28 := Tryz.underlying22
  a28 := Tryz.isAgg22
  z28 := Tryz.sizeOf22
  v28 := Tryz.zeroValue22
  t46 := Tryz.underlying94
  a46 := Tryz.isAgg94
  z46 := Tryz.sizeOf94
  v46 := Tryz.zeroValue94
  t51 := Tryz.underlying140
  a51 := Tryz.isAgg140
  z51 := Tryz.sizeOf140
  v51 := Tryz.zeroValue140
  t53 := Tryz.underlying142
  a53 := Tryz.isAgg142
  z53 := Tryz.sizeOf142
  v53 := Tryz.zeroValue142
  t131 := Tryz.underlying50
  a131 := Tryz.isAgg50
  z131 := Tryz.sizeOf50
  v131 := Tryz.zeroValue50
  t182 := Tryz.underlying180
  a182 := Tryz.isAgg180
  z182 := Tryz.sizeOf180
  v182 := Tryz.zeroValue180
  t183 := Tryz.underlying181
  a183 := Tryz.isAgg181
  z183 := Tryz.sizeOf181
  v183 := Tryz.zeroValue181
  t218 := Tryz.underlying188
  a218 := Tryz.isAgg188
  z218 := Tryz.sizeOf188
  v218 := Tryz.zeroValue188
  t222 := Tryz.underlying192
  a222 := Tryz.isAgg192
  z222 := Tryz.sizeOf192
  v222 := Tryz.zeroValue192
  t228 := Tryz.underlying205
  a228 := Tryz.isAgg205
  z228 := Tryz.sizeOf205
  v228 := Tryz.zeroValue205
  t229 := Tryz.underlying88
  a229 := Tryz.isAgg88
  z229 := Tryz.sizeOf88
  v229 := Tryz.zeroValue88 }
open Go.Sort Go.RowKit in
theorem sh_slices_Sort_int (blk off cap : Nat) (zs : List Int) (w : World) (hH : Holds (Value.int .i64) w blk off zs.toArray) (hblk : blk < w.heap.size) (hsz : zs.length < 4611686018427387904) :
    Calls Tryz.prog 221 #[.slice (some ⟨blk, off, none⟩) zs.length cap] w fun e w' =>
      e = .returned (.tuple #[]) ∧ ∃ n os, w' = grow (putRow (Value.int .i64) (Sort.ahead w n) blk off (zs.mergeSort fun x y => decide (x ≤ y)).toArray) os := Any.slices_Sort_int sh_lays189 blk off cap zs w hH hblk hsz
open Go.RowKit Go.Sort in
theorem sh_slices_Sort_int_none (p : Option Addr) (cap : Nat) (w : World) :
    Calls Tryz.prog 221 #[.slice p 0 cap] w fun e w' => e = .returned (.tuple #[]) ∧ w' = w := Any.slices_Sort_int_none sh_lays189 p cap w
def sh_laysNm220_ren : Go.Shelf.Ren := ⟨fun | 20 => 223 | n => n, fun | 22 => 22 | 3 => 3 | 4 => 4 | 0 => 0 | n => n, fun | n => n⟩
theorem sh_laysNm220 : Go.Proofs.Lays2.n20 Tryz.prog sh_laysNm220_ren := {
  mixed := by kernel_rfl
  f20 := Tryz.func223.trans (congrArg some (by kernel_rfl))
  t0 := Tryz.underlying0
  a0 := Tryz.isAgg0
  z0 := Tryz.sizeOf0
  v0 := Tryz.zeroValue0
  t3 := Tryz.underlying3
  a3 := Tryz.isAgg3
  z3 := Tryz.sizeOf3
  v3 := Tryz.zeroValue3
  t4 := Tryz.underlying4
  a4 := Tryz.isAgg4
  z4 := Tryz.sizeOf4
  v4 := Tryz.zeroValue4
  t22 := Tryz.underlying22
  a22 := Tryz.isAgg22
  z22 := Tryz.sizeOf22
  v22 := Tryz.zeroValue22
  i3 := by kernel_rfl }
open Go.RowKit Go.Lib Go.Sort in
theorem sh_slices_Compact_int (blk off cap : Nat) (zs : List Int) (w : World) (hH : Holds (Value.int .i64) w blk off zs.toArray) (hsz : zs.length ≤ 9223372036854775807) (hcap : zs.length ≤ cap) :
    Calls Tryz.prog 223 #[.slice (some ⟨blk, off, none⟩) zs.length cap] w fun e w' => e = .returned (.slice (some ⟨blk, off, none⟩) (Lib.compact zs).length cap) ∧ ∃ q, w' = putRow (Value.int .i64) (Sort.ahead w q) blk off (Lib.compact zs ++ List.replicate (zs.length - (Lib.compact zs).length) 0).toArray := Any.slices_Compact_int sh_laysNm220 blk off cap zs w hH hsz hcap
open Go.RowKit Go.Lib Go.Sort in
theorem sh_slices_Compact_int_empty (a : Option Addr) (cap : Nat) (w : World) :
    Calls Tryz.prog 223 #[.slice a 0 cap] w fun e w' => e = .returned (.slice a 0 cap) ∧ w' = w := Any.slices_Compact_int_empty sh_laysNm220 a cap w
end Go.Proofs.YtpaoiiiceekkkaaGreatDoor
end
