/- Numerals: the second program. Contracts of the library at this program, laid by the kit's commands. -/
import Derived.Test.YtelmokapdkepbaaDoorQ04
import Derived.Laws.IdiomStrings
import Derived.Shelf.Strings.Builder1
import Derived.Shelf.Strings.Builder2
import Derived.Shelf.Strings.OnBuilder
import Derived.Shelf.Strconv.Itoa0
import Derived.Shelf.Strconv.Itoa1
import Derived.Shelf.LaysM
import Derived.Shelf.Strconv.Itoa2
import Derived.Shelf.Strconv.Itoa3
import Derived.Shelf.Slices.Turned
import Derived.Shelf.Slices.Reverse
import Derived.Ground.Names2Prog
import Derived.Shelf.Slices.Clone
import Derived.Shelf.Slices.Cells
import Derived.Test.YtelmokapdkepbaaDoorProg
section
namespace Go.Proofs.YtelmokapdkepbaaDoor
open Go.RowKit Go.G5

theorem cv1 (w : World) (r : Nat) (hr : r < 10) : (convert 57 9 (.slice (some ⟨w.heap.size, 0, none⟩) 1 1)).run Tryd.prog (w.alloc (.cells #[.int .u8 (48 + (r : Int))] 5)) = .ok (.string ⟨#[UInt8.ofNat (48 + r)]⟩) (w.alloc (.cells #[.int .u8 (48 + (r : Int))] 5)) := by
  refine run_convert_bytes_back (P := Tryd.prog) _ 57 9 5 ⟨w.heap.size, 0, none⟩ 1 [UInt8.ofNat (48 + r)] Tryd.underlying57 Tryd.underlying5 Tryd.underlying9 ?_
  intro j hj
  have hj0 : j = 0 := by simpa using hj
  subst hj0
  have h1 : (UInt8.ofNat (48 + r)).toNat = 48 + r := by
    rw [UInt8.toNat_ofNat']; omega
  show (w.alloc _).cell? ⟨w.heap.size, 0, none⟩ = some (.int .u8 ((UInt8.ofNat (48 + r)).toNat : Int))
  rw [cell_new w _ _ 0 (.int .u8 (48 + (r : Int))) rfl, h1]
  congr 2
theorem dig8 (r : Nat) : UInt8.ofNat (48 + r) = 48 + UInt8.ofNat r := by simp
theorem ret_str {a b : ByteArray} (h : a = b) : Ending.returned (.string a) = .returned (.string b) := by rw [h]
theorem itoaB_zero : itoaB 0 = ⟨#[48]⟩ := by
  refine ba_ext ?_
  show Lib.itoa 0 = [48]
  unfold Lib.itoa
  rw [if_neg (by decide), Lib.decDigits]; rfl
theorem itoaB_pos (k : Nat) (b : ByteArray) (h : 0 < k) (hb : b.data.toList = digs k) : itoaB (k : Int) = b := by
  refine ba_ext ?_
  rw [hb]
  show Lib.itoa (k : Int) = _
  unfold Lib.itoa digs
  rw [if_neg (by omega), if_neg (by omega), Int.toNat_natCast]
theorem itoaB_neg (k : Nat) (b : ByteArray) (h : 0 < k) (hb : b.data.toList = digs k) : itoaB (-(k : Int)) = ⟨#[45]⟩ ++ b := by
  refine ba_ext ?_
  rw [ba_app, hb]
  show Lib.itoa (-(k : Int)) = [45] ++ _
  unfold Lib.itoa digs
  rw [if_pos (by omega), if_neg (by omega), Int.natAbs_neg, Int.natAbs_natCast]; rfl
theorem digs_len (k : Nat) (h : k < 10 ^ 20) : (digs k).length ≤ 20 := by
  unfold digs
  split
  · simp
  · exact decDigits_len 20 k h (by decide)
theorem digs_more (j k : Nat) (b : ByteArray) (hj : 0 < j) (h : digs j ++ b.data.toList = digs k) : digs (j / 10) ++ ((⟨#[UInt8.ofNat (48 + j % 10)]⟩ : ByteArray) ++ b).data.toList = digs k := by
  rw [ba_app, ← h, digs_step j hj, List.append_assoc]
theorem digs_fit (j k : Nat) (b : ByteArray) (hk : k < 10 ^ 20) (h : digs j ++ b.data.toList = digs k) : b.size ≤ 20 := by
  have h1 := digs_len k hk
  rw [← h, List.length_append] at h1
  rw [ba_size]; omega

theorem tdm (m : Int) : (Int.tmod m 10).natAbs = m.natAbs % 10 ∧ (Int.tdiv m 10).natAbs = m.natAbs / 10 ∧ (0 ≤ m → 0 ≤ Int.tmod m 10 ∧ 0 ≤ Int.tdiv m 10) ∧ (m ≤ 0 → Int.tmod m 10 ≤ 0 ∧ Int.tdiv m 10 ≤ 0) := by
  rcases Int.le_total 0 m with h | h
  · obtain ⟨k, rfl⟩ := Int.eq_ofNat_of_zero_le h
    have e1 : Int.tmod (k : Int) 10 = ((k % 10 : Nat) : Int) := by rw [Int.tmod_eq_emod_of_nonneg (by omega)]; rfl
    have e2 : Int.tdiv (k : Int) 10 = ((k / 10 : Nat) : Int) := by rw [Int.tdiv_eq_ediv_of_nonneg (by omega)]; rfl
    rw [e1, e2]
    refine ⟨by omega, by omega, fun _ => ⟨by omega, by omega⟩, fun h2 => ?_⟩
    have : k = 0 := by omega
    subst this; simp
  · obtain ⟨k, rfl⟩ : ∃ k : Nat, m = -(k : Int) := ⟨m.natAbs, by omega⟩
    have e1 : Int.tmod (-(k : Int)) 10 = -((k % 10 : Nat) : Int) := by rw [Int.neg_tmod, Int.tmod_eq_emod_of_nonneg (by omega)]; rfl
    have e2 : Int.tdiv (-(k : Int)) 10 = -((k / 10 : Nat) : Int) := by rw [Int.neg_tdiv, Int.tdiv_eq_ediv_of_nonneg (by omega)]; rfl
    rw [e1, e2]
    refine ⟨by omega, by omega, fun h2 => ?_, fun _ => ⟨by omega, by omega⟩⟩
    have : k = 0 := by omega
    subst this; simp

set_option maxHeartbeats 1000000 in
set_option maxRecDepth 100000 in
theorem fmtS_any (n : Int) (hn : InR n) (w : World) :
    Calls Tryd.prog 13 #[.int .i64 n] w fun e w' => e = .returned (.string (itoaB n)) ∧ Below w.heap.size w w' := by
  have hk : n.natAbs < 10 ^ 20 := by have := hn.1; have := hn.2; omega
  by_cases hn0 : n = 0
  · subst hn0
    go_enter Tryd.func13, Tryd.ntmps13
    go_wp2
    go_ret
    exact ⟨ret_str itoaB_zero.symm, Below.refl _ _⟩
  · have hne : (n == 0) = false := by simpa using hn0
    by_cases hneg : n < 0
    · have hlt : decide (n < 0) = true := decide_eq_true hneg
      go_enter Tryd.func13, Tryd.ntmps13
      go_wp2_with fail
      go_loopw [0, 3] (fun nv sv wr => ∃ (m : Int) (b : ByteArray), nv = .int .i64 m ∧ sv = .string b ∧ (n < 0 → m ≤ 0) ∧ (0 < n → 0 ≤ m) ∧ InR m ∧ digs m.natAbs ++ b.data.toList = digs n.natAbs ∧ Below w.heap.size w wr) (fun nv _ _ => (intOf nv).natAbs)
      case atStart => exact ⟨n, ⟨#[]⟩, rfl, rfl, fun h => by omega, fun h => by omega, hn, by simp, Below.refl _ _⟩
      case round =>
        obtain ⟨m, b, rfl, rfl, hs1, hs2, hmr, hd, B⟩ := hrel
        have hbs := digs_fit _ _ b hk hd
        have HD := Lib.hid hd
        clear hd
        by_cases hm0 : m = 0
        · subst hm0
          have hbd : b.data.toList = digs n.natAbs := by simpa [digs] using HD.out
          have HBD := Lib.hid hbd
          clear hbd HD hs1 hs2 hmr
          go_wp2
          go_ret
          exact ⟨ret_str ((congrArg itoaB (show n = -(n.natAbs : Int) by omega)).trans (itoaB_neg n.natAbs b (by omega) HBD.out)).symm, B⟩
        · have ht := tdm m
          have hmn : (m == 0) = false := by simpa using hm0
          obtain ⟨d, hdm⟩ : ∃ d, Int.tmod m 10 = d := ⟨_, rfl⟩
          obtain ⟨q, hqm⟩ : ∃ q, Int.tdiv m 10 = q := ⟨_, rfl⟩
          rw [hdm, hqm] at ht
          obtain ⟨t1, t2, t3, t4⟩ := ht
          have hmore := digs_more m.natAbs n.natAbs b (by omega) HD.out
          rw [← t1, ← t2] at hmore
          have hq1 : InR q := by
            have := hmr.1; have := hmr.2
            exact ⟨by omega, by omega⟩
          have wq : IntKind.i64.wrap q = q := by rw [IntKind.wrap_i64]; have := hq1.1; have := hq1.2; omega
          have hqs1 : n < 0 → q ≤ 0 := fun h => (t4 (hs1 h)).2
          have hqs2 : 0 < n → 0 ≤ q := fun h => (t3 (hs2 h)).2
          have hdb : d.natAbs < 10 := by omega
          have hms : q.natAbs < m.natAbs := by omega
          obtain ⟨r, hr⟩ : ∃ r : Nat, r = d.natAbs := ⟨_, rfl⟩
          rw [← hr] at hmore hdb
          rw [dig8] at hmore
          have HM := Lib.hid hmore
          have HS1 := Lib.hid hqs1
          have HS2 := Lib.hid hqs2
          have hu : (48 + (r : Int)) % 256 = 48 + r := by omega
          have hu2 : IntKind.u8.wrap (48 + (r : Int)) = 48 + r := by simp [IntKind.wrap, IntKind.bits, IntKind.signed]; omega
          have hcv := cv1 wr r hdb
          have w48 : IntKind.i64.wrap (48 + (r : Int)) = 48 + r := by rw [IntKind.wrap_i64]; omega
          clear hmore hqs1 hqs2 HD hs1 hs2 t1 t2 t3 t4
          by_cases hdn : d < 0
          · have hnd : IntKind.i64.wrap (-d) = (r : Int) := by rw [IntKind.wrap_i64]; omega
            clear hr
            go_wp2
            go_roundw
            case rel => exact ⟨q, _, rfl, rfl, HS1.out, HS2.out, hq1, HM.out, B.alloc B.size _⟩
            case measure => simp [intOf]; omega
          · have hdr : d = (r : Int) := by omega
            subst hdr
            clear hr hdn
            go_wp2
            go_roundw
            case rel => exact ⟨q, _, rfl, rfl, HS1.out, HS2.out, hq1, HM.out, B.alloc B.size _⟩
            case measure => simp [intOf]; omega
    · have hlt : decide (n < 0) = false := decide_eq_false hneg
      go_enter Tryd.func13, Tryd.ntmps13
      go_wp2_with fail
      go_loopw [0, 3] (fun nv sv wr => ∃ (m : Int) (b : ByteArray), nv = .int .i64 m ∧ sv = .string b ∧ (n < 0 → m ≤ 0) ∧ (0 < n → 0 ≤ m) ∧ InR m ∧ digs m.natAbs ++ b.data.toList = digs n.natAbs ∧ Below w.heap.size w wr) (fun nv _ _ => (intOf nv).natAbs)
      case atStart => exact ⟨n, ⟨#[]⟩, rfl, rfl, fun h => by omega, fun h => by omega, hn, by simp, Below.refl _ _⟩
      case round =>
        obtain ⟨m, b, rfl, rfl, hs1, hs2, hmr, hd, B⟩ := hrel
        have hbs := digs_fit _ _ b hk hd
        have HD := Lib.hid hd
        clear hd
        by_cases hm0 : m = 0
        · subst hm0
          have hbd : b.data.toList = digs n.natAbs := by simpa [digs] using HD.out
          have HBD := Lib.hid hbd
          clear hbd HD hs1 hs2 hmr
          go_wp2
          go_ret
          exact ⟨ret_str ((congrArg itoaB (show n = (n.natAbs : Int) by omega)).trans (itoaB_pos n.natAbs b (by omega) HBD.out)).symm, B⟩
        · have ht := tdm m
          have hmn : (m == 0) = false := by simpa using hm0
          obtain ⟨d, hdm⟩ : ∃ d, Int.tmod m 10 = d := ⟨_, rfl⟩
          obtain ⟨q, hqm⟩ : ∃ q, Int.tdiv m 10 = q := ⟨_, rfl⟩
          rw [hdm, hqm] at ht
          obtain ⟨t1, t2, t3, t4⟩ := ht
          have hmore := digs_more m.natAbs n.natAbs b (by omega) HD.out
          rw [← t1, ← t2] at hmore
          have hq1 : InR q := by
            have := hmr.1; have := hmr.2
            exact ⟨by omega, by omega⟩
          have wq : IntKind.i64.wrap q = q := by rw [IntKind.wrap_i64]; have := hq1.1; have := hq1.2; omega
          have hqs1 : n < 0 → q ≤ 0 := fun h => (t4 (hs1 h)).2
          have hqs2 : 0 < n → 0 ≤ q := fun h => (t3 (hs2 h)).2
          have hdb : d.natAbs < 10 := by omega
          have hms : q.natAbs < m.natAbs := by omega
          obtain ⟨r, hr⟩ : ∃ r : Nat, r = d.natAbs := ⟨_, rfl⟩
          rw [← hr] at hmore hdb
          rw [dig8] at hmore
          have HM := Lib.hid hmore
          have HS1 := Lib.hid hqs1
          have HS2 := Lib.hid hqs2
          have hu : (48 + (r : Int)) % 256 = 48 + r := by omega
          have hu2 : IntKind.u8.wrap (48 + (r : Int)) = 48 + r := by simp [IntKind.wrap, IntKind.bits, IntKind.signed]; omega
          have hcv := cv1 wr r hdb
          have w48 : IntKind.i64.wrap (48 + (r : Int)) = 48 + r := by rw [IntKind.wrap_i64]; omega
          clear hmore hqs1 hqs2 HD hs1 hs2 t1 t2 t3 t4
          by_cases hdn : d < 0
          · have hnd : IntKind.i64.wrap (-d) = (r : Int) := by rw [IntKind.wrap_i64]; omega
            clear hr
            go_wp2
            go_roundw
            case rel => exact ⟨q, _, rfl, rfl, HS1.out, HS2.out, hq1, HM.out, B.alloc B.size _⟩
            case measure => simp [intOf]; omega
          · have hdr : d = (r : Int) := by omega
            subst hdr
            clear hr hdn
            go_wp2
            go_roundw
            case rel => exact ⟨q, _, rfl, rfl, HS1.out, HS2.out, hq1, HM.out, B.alloc B.size _⟩
            case measure => simp [intOf]; omega
end Go.Proofs.YtelmokapdkepbaaDoor
end
section
namespace Go.Proofs.YtelmokapdkepbaaDoor
open Go.Shelf
set_option maxRecDepth 100000
def sh_lays156_ren : Go.Shelf.Ren := ⟨fun | 156 => 54 | 165 => 72 | 166 => 73 | 169 => 74 | 240 => 81 | 241 => 82 | 276 => 85 | 277 => 86 | n => n, fun | 31 => 47 | 9 => 9 | 3 => 3 | 4 => 4 | 0 => 0 | 20 => 20 | 72 => 82 | 76 => 86 | 70 => 80 | 37 => 57 | 75 => 85 | 127 => 90 | 164 => 92 | 5 => 5 | 80 => 52 | n => n, fun | n => n⟩
theorem sh_lays156 : Go.Proofs.Lays.n156 Tryd.prog sh_lays156_ren := {
  mixed := by kernel_rfl
  f156 := Tryd.func54.trans (congrArg some (by kernel_rfl))
  f165 := Tryd.func72.trans (congrArg some (by kernel_rfl))
  f166 := Tryd.func73.trans (congrArg some (by kernel_rfl))
  f169 := Tryd.func74.trans (congrArg some (by kernel_rfl))
  f240 := Tryd.func81.trans (congrArg some (by kernel_rfl))
  f241 := Tryd.func82.trans (congrArg some (by kernel_rfl))
  f276 := Tryd.func85.trans (congrArg some (by kernel_rfl))
  f277 := Tryd.func86.trans (congrArg some (by kernel_rfl))
  t0 := Tryd.underlying0
  a0 := Tryd.isAgg0
  z0 := Tryd.sizeOf0
  v0 := Tryd.zeroValue0
  t3 := Tryd.underlying3
  a3 := Tryd.isAgg3
  z3 := Tryd.sizeOf3
  v3 := Tryd.zeroValue3
  t4 := Tryd.underlying4
  a4 := Tryd.isAgg4
  z4 := Tryd.sizeOf4
  v4 := Tryd.zeroValue4
  t9 := Tryd.underlying9
  a9 := Tryd.isAgg9
  z9 := Tryd.sizeOf9
  v9 := Tryd.zeroValue9
  t20 := Tryd.underlying20
  a20 := Tryd.isAgg20
  z20 := Tryd.sizeOf20
  v20 := Tryd.zeroValue20
  t31 := Tryd.underlying47
  a31 := Tryd.isAgg47
  z31 := Tryd.sizeOf47
  v31 := Tryd.zeroValue47
  t37 := Tryd.underlying57
  a37 := Tryd.isAgg57
  z37 := Tryd.sizeOf57
  v37 := Tryd.zeroValue57
  t70 := Tryd.underlying80
  a70 := Tryd.isAgg80
  z70 := Tryd.sizeOf80
  v70 := Tryd.zeroValue80
  t72 := Tryd.underlying82
  a72 := Tryd.isAgg82
  z72 := Tryd.sizeOf82
  v72 := Tryd.zeroValue82
  t75 := Tryd.underlying85
  a75 := Tryd.isAgg85
  z75 := Tryd.sizeOf85
  v75 := Tryd.zeroValue85
  t76 := Tryd.underlying86
  a76 := Tryd.isAgg86
  z76 := Tryd.sizeOf86
  v76 := Tryd.zeroValue86
  t127 := Tryd.underlying90
  a127 := Tryd.isAgg90
  z127 := Tryd.sizeOf90
  v127 := Tryd.zeroValue90
  t164 := Tryd.underlying92
  a164 := Tryd.isAgg92
  z164 := Tryd.sizeOf92
  v164 := Tryd.zeroValue92 }
theorem sh_Builder_Extra_156 : Builder.Extra Tryd.prog sh_lays156_ren := {
  sizeBuilder := by kernel_rfl
  liesBuilder := by kernel_rfl
  t5 := Tryd.underlying5
  a5 := Tryd.isAgg5
  z5 := Tryd.sizeOf5
  v5 := Tryd.zeroValue5
  infoByte := by kernel_rfl
  cellsByte := by kernel_rfl
  sizeByte := by kernel_rfl
  neB5 := by decide }
open Go.RowKit in
theorem sh_strings_Join (bk o c : Nat) (xs : List ByteArray) (sep : ByteArray) (w : World) (hcells : ∀ (j : Nat) x, xs[j]? = some x → w.cell? ⟨bk, o + j, none⟩ = some (.string x)) (hbk : bk < w.heap.size) (hN : xs.length ≤ 140737488355328) (hcap : xs.length ≤ c) (hlen : (Lib.join (xs.map (·.data.toList)) sep.data.toList).length ≤ 140737488355328) :
    Calls Tryd.prog 54 #[.slice (some ⟨bk, o, none⟩) xs.length c, .string sep] w fun e w' => e = .returned (.string ⟨(Lib.join (xs.map (·.data.toList)) sep.data.toList).toArray⟩) ∧ Below w.heap.size w w' := Any.strings_Join sh_lays156 sh_Builder_Extra_156 bk o c xs sep w hcells hbk hN hcap hlen
open Go.RowKit in
theorem sh_strings_Join_none (a : Option Addr) (c : Nat) (sep : ByteArray) (w : World) :
    Calls Tryd.prog 54 #[.slice a 0 c, .string sep] w fun e w' => e = .returned (.string ⟨#[]⟩) ∧ w' = w := Any.strings_Join_none sh_lays156 sh_Builder_Extra_156 a c sep w
def sh_laysM171_ren : Go.Shelf.Ren := ⟨fun | 171 => 70 | 243 => 80 | 246 => 84 | 283 => 88 | 284 => 89 | 285 => 90 | 286 => 91 | 129 => 95 | 317 => 94 | 318 => 96 | 319 => 97 | 320 => 98 | 337 => 99 | 338 => 100 | n => n, fun | 3 => 3 | 9 => 9 | 2 => 2 | 4 => 4 | 171 => 96 | 0 => 0 | 53 => 97 | 37 => 57 | 5 => 5 | 173 => 100 | 212 => 105 | 51 => 103 | 20 => 20 | 213 => 106 | 46 => 74 | 232 => 107 | 233 => 108 | n => n, fun | 17 => 1 | 18 => 2 | 19 => 3 | n => n⟩
theorem sh_laysM171 : Go.Proofs.LaysM.n171 Tryd.prog sh_laysM171_ren := {
  mixed := by kernel_rfl
  f129 := Tryd.func95.trans (congrArg some (by kernel_rfl))
  f171 := Tryd.func70.trans (congrArg some (by kernel_rfl))
  f243 := Tryd.func80.trans (congrArg some (by kernel_rfl))
  f246 := Tryd.func84.trans (congrArg some (by kernel_rfl))
  f283 := Tryd.func88.trans (congrArg some (by kernel_rfl))
  f284 := Tryd.func89.trans (congrArg some (by kernel_rfl))
  f285 := Tryd.func90.trans (congrArg some (by kernel_rfl))
  f286 := Tryd.func91.trans (congrArg some (by kernel_rfl))
  f317 := Tryd.func94.trans (congrArg some (by kernel_rfl))
  f318 := Tryd.func96.trans (congrArg some (by kernel_rfl))
  f319 := Tryd.func97.trans (congrArg some (by kernel_rfl))
  f320 := Tryd.func98.trans (congrArg some (by kernel_rfl))
  f337 := Tryd.func99.trans (congrArg some (by kernel_rfl))
  f338 := Tryd.func100.trans (congrArg some (by kernel_rfl))
  t0 := Tryd.underlying0
  a0 := Tryd.isAgg0
  z0 := Tryd.sizeOf0
  v0 := Tryd.zeroValue0
  t2 := Tryd.underlying2
  a2 := Tryd.isAgg2
  z2 := Tryd.sizeOf2
  v2 := Tryd.zeroValue2
  t3 := Tryd.underlying3
  a3 := Tryd.isAgg3
  z3 := Tryd.sizeOf3
  v3 := Tryd.zeroValue3
  t4 := Tryd.underlying4
  a4 := Tryd.isAgg4
  z4 := Tryd.sizeOf4
  v4 := Tryd.zeroValue4
  t5 := Tryd.underlying5
  a5 := Tryd.isAgg5
  z5 := Tryd.sizeOf5
  v5 := Tryd.zeroValue5
  t9 := Tryd.underlying9
  a9 := Tryd.isAgg9
  z9 := Tryd.sizeOf9
  v9 := Tryd.zeroValue9
  t20 := Tryd.underlying20
  a20 := Tryd.isAgg20
  z20 := Tryd.sizeOf20
  v20 := Tryd.zeroValue20
  t37 := Tryd.underlying57
  a37 := Tryd.isAgg57
  z37 := Tryd.sizeOf57
  v37 := Tryd.zeroValue57
  t46 := Tryd.underlying74
  a46 := Tryd.isAgg74
  z46 := Tryd.sizeOf74
  v46 := Tryd.zeroValue74
  t51 := Tryd.underlying103
  a51 := Tryd.isAgg103
  z51 := Tryd.sizeOf103
  v51 := Tryd.zeroValue103
  t53 := Tryd.underlying97
  a53 := Tryd.isAgg97
  z53 := Tryd.sizeOf97
  v53 := Tryd.zeroValue97
  t171 := Tryd.underlying96
  a171 := Tryd.isAgg96
  z171 := Tryd.sizeOf96
  v171 := Tryd.zeroValue96
  t173 := Tryd.underlying100
  a173 := Tryd.isAgg100
  z173 := Tryd.sizeOf100
  v173 := Tryd.zeroValue100
  t212 := Tryd.underlying105
  a212 := Tryd.isAgg105
  z212 := Tryd.sizeOf105
  v212 := Tryd.zeroValue105
  t213 := Tryd.underlying106
  a213 := Tryd.isAgg106
  z213 := Tryd.sizeOf106
  t232 := Tryd.underlying107
  a232 := Tryd.isAgg107
  z232 := Tryd.sizeOf107
  v232 := Tryd.zeroValue107
  t233 := Tryd.underlying108
  a233 := Tryd.isAgg108
  z233 := Tryd.sizeOf108
  v233 := Tryd.zeroValue108
  g17 := by kernel_rfl
  g18 := by kernel_rfl
  g19 := by kernel_rfl
  i0 := by kernel_rfl
  i2 := by kernel_rfl
  i3 := by kernel_rfl
  i4 := by kernel_rfl
  i5 := by kernel_rfl
  i9 := by kernel_rfl
  i20 := by kernel_rfl
  i37 := by kernel_rfl
  i46 := by kernel_rfl
  i51 := by kernel_rfl
  i53 := by kernel_rfl
  i171 := by kernel_rfl
  i173 := by kernel_rfl
  i212 := by kernel_rfl
  i232 := by kernel_rfl
  i233 := by kernel_rfl
  m17 := by kernel_rfl
  m18 := by kernel_rfl
  m19 := by kernel_rfl }
open Go.RowKit Go.Sort Go.Lib in
theorem sh_strconv_Itoa (n : Int) (h0 : -9223372036854775808 ≤ n) (h1 : n ≤ 9223372036854775807) (w : World) (htab : Lib.TabIs Tryd.prog w "internal/strconv.uint64pow10" .u64 Lib.pow10Tab) :
    Calls Tryd.prog 70 #[.int .i64 n] w fun e w' => e = .returned (.string ⟨(Lib.itoa n).toArray⟩) ∧ ∃ k os, w' = grow (w.drewN k) os := Any.strconv_Itoa sh_laysM171 n h0 h1 w htab
def sh_lays107_ren : Go.Shelf.Ren := ⟨fun | 107 => 49 | 108 => 69 | n => n, fun | 28 => 22 | 3 => 3 | 4 => 4 | 0 => 0 | n => n, fun | n => n⟩
theorem sh_lays107 : Go.Proofs.Lays.n107 Tryd.prog sh_lays107_ren := {
  mixed := by kernel_rfl
  f107 := Tryd.func49.trans (congrArg some (by kernel_rfl))
  f108 := Tryd.func69.trans (congrArg some (by kernel_rfl))
  t0 := Tryd.underlying0
  a0 := Tryd.isAgg0
  z0 := Tryd.sizeOf0
  v0 := Tryd.zeroValue0
  t3 := Tryd.underlying3
  a3 := Tryd.isAgg3
  z3 := Tryd.sizeOf3
  v3 := Tryd.zeroValue3
  t4 := Tryd.underlying4
  a4 := Tryd.isAgg4
  z4 := Tryd.sizeOf4
  v4 := Tryd.zeroValue4
  t28 := Tryd.underlying22
  a28 := Tryd.isAgg22
  z28 := Tryd.sizeOf22
  v28 := Tryd.zeroValue22 }
open Go.Lib in
theorem sh_slices_Contains_int (b off n c : Nat) (zs : List Int) (x : Int) (w : World) (hz : n ≤ zs.length) (hbig : n ≤ 9223372036854775807) (hc : ∀ j, j < zs.length → w.cell? ⟨b, off + j, none⟩ = some (.int .i64 (zs.getD j 0))) :
    Calls Tryd.prog 49 #[.slice (some ⟨b, off, none⟩) n c, .int .i64 x] w fun e w' => e = .returned (.bool ((zs.take n).contains x)) ∧ w' = w := Any.slices_Contains_int sh_lays107 b off n c zs x w hz hbig hc
end Go.Proofs.YtelmokapdkepbaaDoor
end
