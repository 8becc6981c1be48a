/- Numerals: the second program. Texts that are cut, and numbers that are read: what is computed. -/
import Derived.Test.YtipejodijbjpcaaGreatDoorQ10
import Derived.Laws.IdiomStrings
import Derived.Lib.SplitLaws
section
namespace Go.Proofs.YtipejodijbjpcaaGreatDoor
open Go.RowKit Go.G5

theorem cv1 (w : World) (r : Nat) (hr : r < 10) : (convert 58 9 (.slice (some ⟨w.heap.size, 0, none⟩) 1 1)).run Tryz.prog (w.alloc (.cells #[.int .u8 (48 + (r : Int))] 5)) = .ok (.string ⟨#[UInt8.ofNat (48 + r)]⟩) (w.alloc (.cells #[.int .u8 (48 + (r : Int))] 5)) := by
  refine run_convert_bytes_back (P := Tryz.prog) _ 58 9 5 ⟨w.heap.size, 0, none⟩ 1 [UInt8.ofNat (48 + r)] Tryz.underlying58 Tryz.underlying5 Tryz.underlying9 ?_
  intro j hj
  have hj0 : j = 0 := by simpa using hj
  subst hj0
  have h1 : (UInt8.ofNat (48 + r)).toNat = 48 + r := by
    rw [UInt8.toNat_ofNat']; omega
  show (w.alloc _).cell? ⟨w.heap.size, 0, none⟩ = some (.int .u8 ((UInt8.ofNat (48 + r)).toNat : Int))
  rw [cell_new w _ _ 0 (.int .u8 (48 + (r : Int))) rfl, h1]
  congr 2
theorem dig8 (r : Nat) : UInt8.ofNat (48 + r) = 48 + UInt8.ofNat r := by simp
theorem ret_str {a b : ByteArray} (h : a = b) : Ending.returned (.string a) = .returned (.string b) := by rw [h]
theorem itoaB_zero : itoaB 0 = ⟨#[48]⟩ := by
  refine ba_ext ?_
  show Lib.itoa 0 = [48]
  unfold Lib.itoa
  rw [if_neg (by decide), Lib.decDigits]; rfl
theorem itoaB_pos (k : Nat) (b : ByteArray) (h : 0 < k) (hb : b.data.toList = digs k) : itoaB (k : Int) = b := by
  refine ba_ext ?_
  rw [hb]
  show Lib.itoa (k : Int) = _
  unfold Lib.itoa digs
  rw [if_neg (by omega), if_neg (by omega), Int.toNat_natCast]
theorem itoaB_neg (k : Nat) (b : ByteArray) (h : 0 < k) (hb : b.data.toList = digs k) : itoaB (-(k : Int)) = ⟨#[45]⟩ ++ b := by
  refine ba_ext ?_
  rw [ba_app, hb]
  show Lib.itoa (-(k : Int)) = [45] ++ _
  unfold Lib.itoa digs
  rw [if_pos (by omega), if_neg (by omega), Int.natAbs_neg, Int.natAbs_natCast]; rfl
theorem digs_len (k : Nat) (h : k < 10 ^ 20) : (digs k).length ≤ 20 := by
  unfold digs
  split
  · simp
  · exact decDigits_len 20 k h (by decide)
theorem digs_more (j k : Nat) (b : ByteArray) (hj : 0 < j) (h : digs j ++ b.data.toList = digs k) : digs (j / 10) ++ ((⟨#[UInt8.ofNat (48 + j % 10)]⟩ : ByteArray) ++ b).data.toList = digs k := by
  rw [ba_app, ← h, digs_step j hj, List.append_assoc]
theorem digs_fit (j k : Nat) (b : ByteArray) (hk : k < 10 ^ 20) (h : digs j ++ b.data.toList = digs k) : b.size ≤ 20 := by
  have h1 := digs_len k hk
  rw [← h, List.length_append] at h1
  rw [ba_size]; omega

theorem tdm (m : Int) : (Int.tmod m 10).natAbs = m.natAbs % 10 ∧ (Int.tdiv m 10).natAbs = m.natAbs / 10 ∧ (0 ≤ m → 0 ≤ Int.tmod m 10 ∧ 0 ≤ Int.tdiv m 10) ∧ (m ≤ 0 → Int.tmod m 10 ≤ 0 ∧ Int.tdiv m 10 ≤ 0) := by
  rcases Int.le_total 0 m with h | h
  · obtain ⟨k, rfl⟩ := Int.eq_ofNat_of_zero_le h
    have e1 : Int.tmod (k : Int) 10 = ((k % 10 : Nat) : Int) := by rw [Int.tmod_eq_emod_of_nonneg (by omega)]; rfl
    have e2 : Int.tdiv (k : Int) 10 = ((k / 10 : Nat) : Int) := by rw [Int.tdiv_eq_ediv_of_nonneg (by omega)]; rfl
    rw [e1, e2]
    refine ⟨by omega, by omega, fun _ => ⟨by omega, by omega⟩, fun h2 => ?_⟩
    have : k = 0 := by omega
    subst this; simp
  · obtain ⟨k, rfl⟩ : ∃ k : Nat, m = -(k : Int) := ⟨m.natAbs, by omega⟩
    have e1 : Int.tmod (-(k : Int)) 10 = -((k % 10 : Nat) : Int) := by rw [Int.neg_tmod, Int.tmod_eq_emod_of_nonneg (by omega)]; rfl
    have e2 : Int.tdiv (-(k : Int)) 10 = -((k / 10 : Nat) : Int) := by rw [Int.neg_tdiv, Int.tdiv_eq_ediv_of_nonneg (by omega)]; rfl
    rw [e1, e2]
    refine ⟨by omega, by omega, fun h2 => ?_, fun _ => ⟨by omega, by omega⟩⟩
    have : k = 0 := by omega
    subst this; simp

set_option maxHeartbeats 1000000 in
set_option maxRecDepth 100000 in
theorem fmtS_any (n : Int) (hn : InR n) (w : World) :
    Calls Tryz.prog 75 #[.int .i64 n] w fun e w' => e = .returned (.string (itoaB n)) ∧ Below w.heap.size w w' := by
  have hk : n.natAbs < 10 ^ 20 := by have := hn.1; have := hn.2; omega
  by_cases hn0 : n = 0
  · subst hn0
    go_enter Tryz.func75, Tryz.ntmps75
    go_wp2
    go_ret
    exact ⟨ret_str itoaB_zero.symm, Below.refl _ _⟩
  · have hne : (n == 0) = false := by simpa using hn0
    by_cases hneg : n < 0
    · have hlt : decide (n < 0) = true := decide_eq_true hneg
      go_enter Tryz.func75, Tryz.ntmps75
      go_wp2_with fail
      go_loopw [0, 3] (fun nv sv wr => ∃ (m : Int) (b : ByteArray), nv = .int .i64 m ∧ sv = .string b ∧ (n < 0 → m ≤ 0) ∧ (0 < n → 0 ≤ m) ∧ InR m ∧ digs m.natAbs ++ b.data.toList = digs n.natAbs ∧ Below w.heap.size w wr) (fun nv _ _ => (intOf nv).natAbs)
      case atStart => exact ⟨n, ⟨#[]⟩, rfl, rfl, fun h => by omega, fun h => by omega, hn, by simp, Below.refl _ _⟩
      case round =>
        obtain ⟨m, b, rfl, rfl, hs1, hs2, hmr, hd, B⟩ := hrel
        have hbs := digs_fit _ _ b hk hd
        have HD := Lib.hid hd
        clear hd
        by_cases hm0 : m = 0
        · subst hm0
          have hbd : b.data.toList = digs n.natAbs := by simpa [digs] using HD.out
          have HBD := Lib.hid hbd
          clear hbd HD hs1 hs2 hmr
          go_wp2
          go_ret
          exact ⟨ret_str ((congrArg itoaB (show n = -(n.natAbs : Int) by omega)).trans (itoaB_neg n.natAbs b (by omega) HBD.out)).symm, B⟩
        · have ht := tdm m
          have hmn : (m == 0) = false := by simpa using hm0
          obtain ⟨d, hdm⟩ : ∃ d, Int.tmod m 10 = d := ⟨_, rfl⟩
          obtain ⟨q, hqm⟩ : ∃ q, Int.tdiv m 10 = q := ⟨_, rfl⟩
          rw [hdm, hqm] at ht
          obtain ⟨t1, t2, t3, t4⟩ := ht
          have hmore := digs_more m.natAbs n.natAbs b (by omega) HD.out
          rw [← t1, ← t2] at hmore
          have hq1 : InR q := by
            have := hmr.1; have := hmr.2
            exact ⟨by omega, by omega⟩
          have wq : IntKind.i64.wrap q = q := by rw [IntKind.wrap_i64]; have := hq1.1; have := hq1.2; omega
          have hqs1 : n < 0 → q ≤ 0 := fun h => (t4 (hs1 h)).2
          have hqs2 : 0 < n → 0 ≤ q := fun h => (t3 (hs2 h)).2
          have hdb : d.natAbs < 10 := by omega
          have hms : q.natAbs < m.natAbs := by omega
          obtain ⟨r, hr⟩ : ∃ r : Nat, r = d.natAbs := ⟨_, rfl⟩
          rw [← hr] at hmore hdb
          rw [dig8] at hmore
          have HM := Lib.hid hmore
          have HS1 := Lib.hid hqs1
          have HS2 := Lib.hid hqs2
          have hu : (48 + (r : Int)) % 256 = 48 + r := by omega
          have hu2 : IntKind.u8.wrap (48 + (r : Int)) = 48 + r := by simp [IntKind.wrap, IntKind.bits, IntKind.signed]; omega
          have hcv := cv1 wr r hdb
          have w48 : IntKind.i64.wrap (48 + (r : Int)) = 48 + r := by rw [IntKind.wrap_i64]; omega
          clear hmore hqs1 hqs2 HD hs1 hs2 t1 t2 t3 t4
          by_cases hdn : d < 0
          · have hnd : IntKind.i64.wrap (-d) = (r : Int) := by rw [IntKind.wrap_i64]; omega
            clear hr
            go_wp2
            go_roundw
            case rel => exact ⟨q, _, rfl, rfl, HS1.out, HS2.out, hq1, HM.out, B.alloc B.size _⟩
            case measure => simp [intOf]; omega
          · have hdr : d = (r : Int) := by omega
            subst hdr
            clear hr hdn
            go_wp2
            go_roundw
            case rel => exact ⟨q, _, rfl, rfl, HS1.out, HS2.out, hq1, HM.out, B.alloc B.size _⟩
            case measure => simp [intOf]; omega
    · have hlt : decide (n < 0) = false := decide_eq_false hneg
      go_enter Tryz.func75, Tryz.ntmps75
      go_wp2_with fail
      go_loopw [0, 3] (fun nv sv wr => ∃ (m : Int) (b : ByteArray), nv = .int .i64 m ∧ sv = .string b ∧ (n < 0 → m ≤ 0) ∧ (0 < n → 0 ≤ m) ∧ InR m ∧ digs m.natAbs ++ b.data.toList = digs n.natAbs ∧ Below w.heap.size w wr) (fun nv _ _ => (intOf nv).natAbs)
      case atStart => exact ⟨n, ⟨#[]⟩, rfl, rfl, fun h => by omega, fun h => by omega, hn, by simp, Below.refl _ _⟩
      case round =>
        obtain ⟨m, b, rfl, rfl, hs1, hs2, hmr, hd, B⟩ := hrel
        have hbs := digs_fit _ _ b hk hd
        have HD := Lib.hid hd
        clear hd
        by_cases hm0 : m = 0
        · subst hm0
          have hbd : b.data.toList = digs n.natAbs := by simpa [digs] using HD.out
          have HBD := Lib.hid hbd
          clear hbd HD hs1 hs2 hmr
          go_wp2
          go_ret
          exact ⟨ret_str ((congrArg itoaB (show n = (n.natAbs : Int) by omega)).trans (itoaB_pos n.natAbs b (by omega) HBD.out)).symm, B⟩
        · have ht := tdm m
          have hmn : (m == 0) = false := by simpa using hm0
          obtain ⟨d, hdm⟩ : ∃ d, Int.tmod m 10 = d := ⟨_, rfl⟩
          obtain ⟨q, hqm⟩ : ∃ q, Int.tdiv m 10 = q := ⟨_, rfl⟩
          rw [hdm, hqm] at ht
          obtain ⟨t1, t2, t3, t4⟩ := ht
          have hmore := digs_more m.natAbs n.natAbs b (by omega) HD.out
          rw [← t1, ← t2] at hmore
          have hq1 : InR q := by
            have := hmr.1; have := hmr.2
            exact ⟨by omega, by omega⟩
          have wq : IntKind.i64.wrap q = q := by rw [IntKind.wrap_i64]; have := hq1.1; have := hq1.2; omega
          have hqs1 : n < 0 → q ≤ 0 := fun h => (t4 (hs1 h)).2
          have hqs2 : 0 < n → 0 ≤ q := fun h => (t3 (hs2 h)).2
          have hdb : d.natAbs < 10 := by omega
          have hms : q.natAbs < m.natAbs := by omega
          obtain ⟨r, hr⟩ : ∃ r : Nat, r = d.natAbs := ⟨_, rfl⟩
          rw [← hr] at hmore hdb
          rw [dig8] at hmore
          have HM := Lib.hid hmore
          have HS1 := Lib.hid hqs1
          have HS2 := Lib.hid hqs2
          have hu : (48 + (r : Int)) % 256 = 48 + r := by omega
          have hu2 : IntKind.u8.wrap (48 + (r : Int)) = 48 + r := by simp [IntKind.wrap, IntKind.bits, IntKind.signed]; omega
          have hcv := cv1 wr r hdb
          have w48 : IntKind.i64.wrap (48 + (r : Int)) = 48 + r := by rw [IntKind.wrap_i64]; omega
          clear hmore hqs1 hqs2 HD hs1 hs2 t1 t2 t3 t4
          by_cases hdn : d < 0
          · have hnd : IntKind.i64.wrap (-d) = (r : Int) := by rw [IntKind.wrap_i64]; omega
            clear hr
            go_wp2
            go_roundw
            case rel => exact ⟨q, _, rfl, rfl, HS1.out, HS2.out, hq1, HM.out, B.alloc B.size _⟩
            case measure => simp [intOf]; omega
          · have hdr : d = (r : Int) := by omega
            subst hdr
            clear hr hdn
            go_wp2
            go_roundw
            case rel => exact ⟨q, _, rfl, rfl, HS1.out, HS2.out, hq1, HM.out, B.alloc B.size _⟩
            case measure => simp [intOf]; omega
end Go.Proofs.YtipejodijbjpcaaGreatDoor
end
section
namespace Go.Proofs.YtipejodijbjpcaaGreatDoor
open Go.RowKit Go.G5

/-- what is cut at c, part being at hand -/
def cutA (c : UInt8) : List UInt8 → List UInt8 → List (List UInt8)
  | part, [] => [part]
  | part, b :: l => if b = c then part :: cutA c [] l else cutA c (part ++ [b]) l
def mkB (l : List UInt8) : ByteArray := ⟨l.toArray⟩
theorem mkB_data (l : List UInt8) : (mkB l).data.toList = l := rfl
theorem data_mkB (s : ByteArray) : mkB s.data.toList = s := ba_ext rfl
def cutB (c : UInt8) (s : ByteArray) : List ByteArray := (cutA c [] s.data.toList).map mkB
theorem cutA_ne (c : UInt8) (part l : List UInt8) : cutA c part l ≠ [] := by
  induction l generalizing part with
  | nil => simp [cutA]
  | cons b l ih =>
    rw [cutA]
    split
    · simp
    · exact ih _
theorem cutA_head (c : UInt8) : ∀ (l part : List UInt8), cutA c part l = (part ++ (cutA c [] l).headD []) :: (cutA c [] l).tail := by
  intro l
  induction l with
  | nil => intro part; simp [cutA]
  | cons b l ih =>
    intro part
    by_cases hb : b = c
    · rw [cutA, if_pos hb, cutA, if_pos hb]; simp
    · rw [cutA, if_neg hb, cutA, if_neg hb, ih (part ++ [b]), ih ([] ++ [b])]
      simp
theorem index_miss (b c : UInt8) (l : List UInt8) (h : b ≠ c) : Lib.index (b :: l) [c] = if Lib.index l [c] == -1 then -1 else Lib.index l [c] + 1 := by
  rw [Lib.index]
  have : ([c] : List UInt8).isPrefixOf (b :: l) = false := by simp [List.isPrefixOf]; exact fun e => h e.symm
  rw [if_neg (by rw [this]; simp)]
theorem index_hit (c : UInt8) (l : List UInt8) : Lib.index (c :: l) [c] = 0 := by
  rw [Lib.index, if_pos (by simp [List.isPrefixOf])]
theorem split_cut (c : UInt8) : ∀ s : List UInt8, Lib.splitK [c] 0 (Lib.count s [c]) s = cutA c [] s := by
  intro s
  induction s with
  | nil => rfl
  | cons b l ih =>
    by_cases hb : b = c
    · subst hb
      rw [Lib.count_cons_eq, Nat.add_comm 1, Lib.splitK, index_hit, if_neg (by decide), cutA, if_pos rfl]
      rw [← ih]
      rfl
    · rw [Lib.count_cons_ne b c l hb, cutA, if_neg hb, cutA_head, ← ih]
      by_cases hi : Lib.index l [c] = -1
      · have h0 : Lib.count l [c] = 0 := Lib.count_miss hi
        rw [h0]
        rfl
      · have hge := Lib.index_ge l [c]
        obtain ⟨i, hi2⟩ : ∃ i : Nat, Lib.index l [c] = (i : Int) := Int.eq_ofNat_of_zero_le (by omega)
        have hc := Lib.count_hit (s := l) (sub := [c]) (i := i) (by simp) hi2
        rw [hc, Nat.add_comm 1]
        rw [Lib.splitK, Lib.splitK, index_miss b c l hb, hi2]
        have hn1 : (((i : Nat) : Int) == -1) = false := by rw [beq_eq_false_iff_ne]; omega
        have hn2 : (((i : Nat) : Int) + 1 == -1) = false := by rw [beq_eq_false_iff_ne]; omega
        simp only [hn1, hn2, Bool.false_eq_true, if_false]
        have e1 : ((i : Int) + 1).toNat = i + 1 := by omega
        have e2 : ((i : Nat) : Int).toNat = i := by omega
        rw [e1, e2]
        simp
theorem splitB_cut (c : UInt8) (s : ByteArray) : Lib.splitB ⟨#[c]⟩ 0 (Lib.countB s ⟨#[c]⟩) s = cutB c s := by
  have h := Lib.splitB_data ⟨#[c]⟩ 0 (Lib.countB s ⟨#[c]⟩) s
  have h2 : Lib.splitK (⟨#[c]⟩ : ByteArray).data.toList 0 (Lib.countB s ⟨#[c]⟩) s.data.toList = cutA c [] s.data.toList := split_cut c s.data.toList
  rw [h2] at h
  unfold cutB
  rw [← h, List.map_map]
  refine (List.map_id _).symm.trans ?_
  exact List.map_congr_left fun x _ => (data_mkB x).symm
theorem cutA_len (c : UInt8) : ∀ (l part : List UInt8), (cutA c part l).length ≤ l.length + 1 := by
  intro l
  induction l with
  | nil => intro part; simp [cutA]
  | cons b l ih =>
    intro part
    rw [cutA]
    split
    · have := ih []; simp; omega
    · have := ih (part ++ [b]); simp; omega
theorem cutB_len (c : UInt8) (s : ByteArray) : (cutB c s).length ≤ s.size + 1 := by
  unfold cutB
  rw [List.length_map]
  have := cutA_len c s.data.toList []
  rw [Lib.size_eq]; exact this
theorem cutB_ne (c : UInt8) (s : ByteArray) : cutB c s ≠ [] := by
  unfold cutB
  intro h
  exact cutA_ne c [] _ (List.map_eq_nil_iff.1 h)
theorem cutA_part (c : UInt8) : ∀ (l part : List UInt8), ∀ x ∈ cutA c part l, x.length ≤ part.length + l.length := by
  intro l
  induction l with
  | nil => intro part x hx; simp [cutA] at hx; subst hx; simp
  | cons b l ih =>
    intro part x hx
    rw [cutA] at hx
    split at hx
    · rcases List.mem_cons.1 hx with rfl | hx
      · simp
      · have := ih [] x hx; simp at this ⊢; omega
    · have := ih (part ++ [b]) x hx; simp at this ⊢; omega
theorem cutB_part (c : UInt8) (s : ByteArray) : ∀ x ∈ cutB c s, x.size ≤ s.size := by
  intro x hx
  obtain ⟨l, hl, rfl⟩ := List.mem_map.1 hx
  have := cutA_part c _ [] l hl
  rw [Lib.size_eq, Lib.size_eq, mkB_data]
  simpa using this

/-- where a loop over the bytes of s stands: j parts are done, the part at hand is P, k bytes are read -/
def CutAt (c : UInt8) (s : ByteArray) (ps : List ByteArray) (j : Nat) (P : ByteArray) (k : Nat) : Prop :=
  ps.drop j = (cutA c P.data.toList (s.data.toList.drop k)).map mkB ∧ k ≤ s.size ∧ P.size ≤ k
theorem cutAt_0 (c : UInt8) (s : ByteArray) : CutAt c s (cutB c s) 0 ByteArray.empty 0 := ⟨rfl, Nat.zero_le _, Nat.zero_le _⟩
theorem drop_bytes (s : ByteArray) (k : Nat) (h : k < s.size) : s.data.toList.drop k = s[k] :: s.data.toList.drop (k + 1) := by
  rw [List.drop_eq_getElem_cons (by simpa using h)]; rfl
theorem one_byte (P s : ByteArray) (k : Nat) (h : k < s.size) : (P ++ s.extract k (k + 1)).data.toList = P.data.toList ++ [s[k]] := by
  rw [ba_app, Lib.extract_data, drop_bytes s k h]
  congr 1
  rw [show k + 1 - k = 1 by omega]
  rfl
theorem one_size (P s : ByteArray) (k : Nat) (h : k < s.size) : (P ++ s.extract k (k + 1)).size = P.size + 1 := by
  rw [Lib.size_eq, one_byte P s k h, Lib.size_eq]; simp
theorem cutAt_next {c : UInt8} {s : ByteArray} {ps : List ByteArray} {j : Nat} {P : ByteArray} {k : Nat} (h : CutAt c s ps j P k) (hlt : k < s.size) (hne : s[k] ≠ c) : CutAt c s ps j (P ++ s.extract k (k + 1)) (k + 1) := by
  obtain ⟨h1, _, h3⟩ := h
  refine ⟨?_, hlt, by rw [one_size P s k hlt]; omega⟩
  rw [h1, drop_bytes s k hlt, cutA, if_neg hne, one_byte P s k hlt]
theorem drop_cons {ps : List ByteArray} {j : Nat} {x : ByteArray} {r : List ByteArray} (h : ps.drop j = x :: r) : j < ps.length ∧ ps.getD j ByteArray.empty = x ∧ ps.drop (j + 1) = r := by
  have hj : j < ps.length := by
    have := congrArg List.length h
    rw [List.length_drop] at this
    simp at this
    omega
  rw [List.drop_eq_getElem_cons hj] at h
  injection h with h1 h2
  exact ⟨hj, by rw [List.getD_eq_getElem?_getD, List.getElem?_eq_getElem hj]; exact h1, h2⟩
theorem cutAt_end {c : UInt8} {s : ByteArray} {ps : List ByteArray} {j : Nat} {P : ByteArray} {k : Nat} (h : CutAt c s ps j P k) (hlt : k < s.size) (heq : s[k] = c) : j < ps.length ∧ ps.getD j ByteArray.empty = P ∧ CutAt c s ps (j + 1) ByteArray.empty (k + 1) := by
  obtain ⟨h1, _, _⟩ := h
  rw [drop_bytes s k hlt, cutA, if_pos heq, List.map_cons] at h1
  obtain ⟨a, b, d⟩ := drop_cons h1
  exact ⟨a, by rw [b]; exact data_mkB P, d, hlt, Nat.zero_le _⟩
theorem cutAt_fin {c : UInt8} {s : ByteArray} {ps : List ByteArray} {j : Nat} {P : ByteArray} {k : Nat} (h : CutAt c s ps j P k) (hk : ¬ k < s.size) : j < ps.length ∧ ps.getD j ByteArray.empty = P ∧ j + 1 = ps.length := by
  obtain ⟨h1, _, _⟩ := h
  have e : s.data.toList.drop k = [] := List.drop_eq_nil_of_le (by rw [← Lib.size_eq]; omega)
  rw [e, cutA, List.map_cons, List.map_nil] at h1
  obtain ⟨a, b, d⟩ := drop_cons h1
  have := List.drop_eq_nil_iff.1 d
  exact ⟨a, by rw [b]; exact data_mkB P, by omega⟩

/-- a byte that is a digit -/
def isDig (b : UInt8) : Bool := decide (48 ≤ b.toNat) && decide (b.toNat ≤ 57)
def valStep (n : Nat) (b : UInt8) : Nat := if isDig b then n * 10 + (b.toNat - 48) else n
def valL (l : List UInt8) : Nat := l.foldl valStep 0
def cntD (l : List UInt8) : Nat := l.countP isDig
theorem valL_snoc (l : List UInt8) (b : UInt8) : valL (l ++ [b]) = valStep (valL l) b := by unfold valL; rw [List.foldl_append]; rfl
theorem cntD_snoc (l : List UInt8) (b : UInt8) : cntD (l ++ [b]) = cntD l + if isDig b then 1 else 0 := by
  unfold cntD; rw [List.countP_append]; simp [List.countP_cons]
theorem valF_lt : ∀ (l : List UInt8) (n k : Nat), n < 10 ^ k → l.foldl valStep n < 10 ^ (k + cntD l) := by
  intro l
  induction l with
  | nil => intro n k h; simpa [cntD] using h
  | cons b l ih =>
    intro n k h
    rw [List.foldl_cons]
    unfold cntD
    rw [List.countP_cons]
    cases hd : isDig b with
    | false =>
      have := ih n k h
      have e : valStep n b = n := by unfold valStep; rw [hd]; rfl
      rw [e]
      simpa [cntD] using this
    | true =>
      have hd2 := hd
      unfold isDig at hd2
      simp at hd2
      have := ih (n * 10 + (b.toNat - 48)) (k + 1) (by rw [Nat.pow_succ]; omega)
      rw [show k + 1 + cntD l = k + (cntD l + 1) by omega] at this
      have e : valStep n b = n * 10 + (b.toNat - 48) := by unfold valStep; rw [hd]; rfl
      rw [e]
      simpa [cntD] using this
theorem valL_lt (l : List UInt8) (k : Nat) (h : cntD l ≤ k) : valL l < 10 ^ k := by
  have h1 := valF_lt l 0 0 (by decide)
  rw [Nat.zero_add] at h1
  exact Nat.lt_of_lt_of_le h1 (Nat.pow_le_pow_right (by decide) h)
theorem dig_is (r : Nat) (h : r < 10) : isDig (UInt8.ofNat (48 + r)) = true ∧ (UInt8.ofNat (48 + r)).toNat = 48 + r := by
  have : ∀ r, r < 10 → isDig (UInt8.ofNat (48 + r)) = true ∧ (UInt8.ofNat (48 + r)).toNat = 48 + r := by decide
  exact this r h
theorem digs_all : ∀ (m u : Nat), u ≤ m → (∀ b ∈ digs u, isDig b = true) ∧ valL (digs u) = u := by
  intro m
  induction m with
  | zero =>
    intro u hu
    have : u = 0 := by omega
    subst this
    exact ⟨by simp [digs], rfl⟩
  | succ m ih =>
    intro u hu
    by_cases h0 : u = 0
    · subst h0; exact ⟨by simp [digs], rfl⟩
    · have hd := digs_step u (by omega)
      obtain ⟨h1, h2⟩ := ih (u / 10) (by omega)
      obtain ⟨h3, h4⟩ := dig_is (u % 10) (by omega)
      rw [hd]
      refine ⟨fun b hb => ?_, ?_⟩
      · rcases List.mem_append.1 hb with hb | hb
        · exact h1 b hb
        · rw [List.mem_singleton] at hb; subst hb; exact h3
      · rw [valL_snoc, h2]
        unfold valStep
        rw [if_pos h3, h4]
        omega
theorem dec_all (u : Nat) : (∀ b ∈ Lib.decDigits u, isDig b = true) ∧ valL (Lib.decDigits u) = u := by
  by_cases h0 : u = 0
  · subst h0
    have e : Lib.decDigits 0 = [48] := by rw [Lib.decDigits]; rfl
    rw [e]
    exact ⟨by decide, by decide⟩
  · have := digs_all u u (Nat.le_refl _)
    unfold digs at this
    rw [if_neg h0] at this
    exact this
/-- the number that a text tells, by its digits and its sign -/
def pSg (s : ByteArray) : Bool := s.data.toList.headD 0 == 45
def pN (s : ByteArray) : Int := if pSg s then -(valL s.data.toList : Int) else (valL s.data.toList : Int)
def pB (s : ByteArray) : Bool := decide (itoaB (pN s) = s) && (decide (-999999999 ≤ pN s) && decide (pN s ≤ 999999999))
def pV (s : ByteArray) : Int := if pB s then pN s else 0
theorem pV_yes {s : ByteArray} (h : pB s = true) : pV s = pN s := by unfold pV; rw [if_pos h]
theorem pV_no {s : ByteArray} (h : pB s = false) : pV s = 0 := by unfold pV; rw [h]; rfl
theorem ret_pair {a b : Int} {x y : Bool} (h : a = b) (k : x = y) : Ending.returned (.tuple #[.int .i64 a, .bool x]) = .returned (.tuple #[.int .i64 b, .bool y]) := by rw [h, k]
theorem valL_minus (l : List UInt8) : valL (45 :: l) = valL l := by unfold valL; rfl
theorem itoa_data (n : Int) : (itoaB n).data.toList = if n < 0 then 45 :: Lib.decDigits n.natAbs else Lib.decDigits n.natAbs := by
  show Lib.itoa n = _
  unfold Lib.itoa
  split
  · rfl
  · rename_i h
    rw [show n.toNat = n.natAbs by omega]
theorem dec_head (u : Nat) : (Lib.decDigits u).headD 0 ≠ 45 := by
  have h := (dec_all u).1
  have hne := decDigits_ne u
  cases hd : Lib.decDigits u with
  | nil => exact absurd hd hne
  | cons b l =>
    rw [hd] at h
    have := h b (by simp)
    intro e
    simp at e
    subst e
    revert this; decide
theorem pB_is {s : ByteArray} (h : pB s = true) : itoaB (pN s) = s ∧ -999999999 ≤ pN s ∧ pN s ≤ 999999999 := by
  unfold pB at h
  simpa using h
end Go.Proofs.YtipejodijbjpcaaGreatDoor
end
