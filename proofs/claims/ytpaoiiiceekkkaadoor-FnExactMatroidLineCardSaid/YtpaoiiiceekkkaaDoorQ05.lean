/- Numerals: the second program. Contracts of the library at this program, laid by the kit's commands. Numerals: the first program. The frame of a law's row whose condition lays the library's tables. Rows of texts that the call has made: append, join, contains. -/
import Derived.Test.YtpaoiiiceekkkaaDoorQ04
import Derived.Laws.IdiomStrings
import Derived.Shelf.Strings.Builder1
import Derived.Shelf.Strings.Builder2
import Derived.Shelf.Strings.OnBuilder
import Derived.Shelf.Strconv.Itoa0
import Derived.Shelf.Strconv.Itoa1
import Derived.Shelf.LaysM
import Derived.Shelf.Strconv.Itoa2
import Derived.Shelf.Strconv.Itoa3
import Derived.Shelf.Slices.Turned
import Derived.Shelf.Slices.Reverse
import Derived.Shelf.Slices.Equal
import Derived.Ground.Names2Prog
import Derived.Shelf.Slices.Clone
import Derived.Shelf.Slices.Empties2
import Derived.Test.YtpaoiiiceekkkaaDoorProg
import Derived.Lib.SmallJoins
import Derived.LaidMore
import Derived.Stop.LaidErr
import Derived.Stop.Joined
import Derived.MakeChecks
import Derived.Laws.AppendOwn
import Derived.OwnWalk
section
namespace Go.Proofs.YtpaoiiiceekkkaaDoor
open Go.RowKit Go.G5

theorem cv1 (w : World) (r : Nat) (hr : r < 10) : (convert 86 9 (.slice (some ⟨w.heap.size, 0, none⟩) 1 1)).run Tryd.prog (w.alloc (.cells #[.int .u8 (48 + (r : Int))] 5)) = .ok (.string ⟨#[UInt8.ofNat (48 + r)]⟩) (w.alloc (.cells #[.int .u8 (48 + (r : Int))] 5)) := by
  refine run_convert_bytes_back (P := Tryd.prog) _ 86 9 5 ⟨w.heap.size, 0, none⟩ 1 [UInt8.ofNat (48 + r)] Tryd.underlying86 Tryd.underlying5 Tryd.underlying9 ?_
  intro j hj
  have hj0 : j = 0 := by simpa using hj
  subst hj0
  have h1 : (UInt8.ofNat (48 + r)).toNat = 48 + r := by
    rw [UInt8.toNat_ofNat']; omega
  show (w.alloc _).cell? ⟨w.heap.size, 0, none⟩ = some (.int .u8 ((UInt8.ofNat (48 + r)).toNat : Int))
  rw [cell_new w _ _ 0 (.int .u8 (48 + (r : Int))) rfl, h1]
  congr 2
theorem dig8 (r : Nat) : UInt8.ofNat (48 + r) = 48 + UInt8.ofNat r := by simp
theorem ret_str {a b : ByteArray} (h : a = b) : Ending.returned (.string a) = .returned (.string b) := by rw [h]
theorem itoaB_zero : itoaB 0 = ⟨#[48]⟩ := by
  refine ba_ext ?_
  show Lib.itoa 0 = [48]
  unfold Lib.itoa
  rw [if_neg (by decide), Lib.decDigits]; rfl
theorem itoaB_pos (k : Nat) (b : ByteArray) (h : 0 < k) (hb : b.data.toList = digs k) : itoaB (k : Int) = b := by
  refine ba_ext ?_
  rw [hb]
  show Lib.itoa (k : Int) = _
  unfold Lib.itoa digs
  rw [if_neg (by omega), if_neg (by omega), Int.toNat_natCast]
theorem itoaB_neg (k : Nat) (b : ByteArray) (h : 0 < k) (hb : b.data.toList = digs k) : itoaB (-(k : Int)) = ⟨#[45]⟩ ++ b := by
  refine ba_ext ?_
  rw [ba_app, hb]
  show Lib.itoa (-(k : Int)) = [45] ++ _
  unfold Lib.itoa digs
  rw [if_pos (by omega), if_neg (by omega), Int.natAbs_neg, Int.natAbs_natCast]; rfl
theorem digs_len (k : Nat) (h : k < 10 ^ 20) : (digs k).length ≤ 20 := by
  unfold digs
  split
  · simp
  · exact decDigits_len 20 k h (by decide)
theorem digs_more (j k : Nat) (b : ByteArray) (hj : 0 < j) (h : digs j ++ b.data.toList = digs k) : digs (j / 10) ++ ((⟨#[UInt8.ofNat (48 + j % 10)]⟩ : ByteArray) ++ b).data.toList = digs k := by
  rw [ba_app, ← h, digs_step j hj, List.append_assoc]
theorem digs_fit (j k : Nat) (b : ByteArray) (hk : k < 10 ^ 20) (h : digs j ++ b.data.toList = digs k) : b.size ≤ 20 := by
  have h1 := digs_len k hk
  rw [← h, List.length_append] at h1
  rw [ba_size]; omega

theorem tdm (m : Int) : (Int.tmod m 10).natAbs = m.natAbs % 10 ∧ (Int.tdiv m 10).natAbs = m.natAbs / 10 ∧ (0 ≤ m → 0 ≤ Int.tmod m 10 ∧ 0 ≤ Int.tdiv m 10) ∧ (m ≤ 0 → Int.tmod m 10 ≤ 0 ∧ Int.tdiv m 10 ≤ 0) := by
  rcases Int.le_total 0 m with h | h
  · obtain ⟨k, rfl⟩ := Int.eq_ofNat_of_zero_le h
    have e1 : Int.tmod (k : Int) 10 = ((k % 10 : Nat) : Int) := by rw [Int.tmod_eq_emod_of_nonneg (by omega)]; rfl
    have e2 : Int.tdiv (k : Int) 10 = ((k / 10 : Nat) : Int) := by rw [Int.tdiv_eq_ediv_of_nonneg (by omega)]; rfl
    rw [e1, e2]
    refine ⟨by omega, by omega, fun _ => ⟨by omega, by omega⟩, fun h2 => ?_⟩
    have : k = 0 := by omega
    subst this; simp
  · obtain ⟨k, rfl⟩ : ∃ k : Nat, m = -(k : Int) := ⟨m.natAbs, by omega⟩
    have e1 : Int.tmod (-(k : Int)) 10 = -((k % 10 : Nat) : Int) := by rw [Int.neg_tmod, Int.tmod_eq_emod_of_nonneg (by omega)]; rfl
    have e2 : Int.tdiv (-(k : Int)) 10 = -((k / 10 : Nat) : Int) := by rw [Int.neg_tdiv, Int.tdiv_eq_ediv_of_nonneg (by omega)]; rfl
    rw [e1, e2]
    refine ⟨by omega, by omega, fun h2 => ?_, fun _ => ⟨by omega, by omega⟩⟩
    have : k = 0 := by omega
    subst this; simp

set_option maxHeartbeats 1000000 in
set_option maxRecDepth 100000 in
theorem fmtS_any (n : Int) (hn : InR n) (w : World) :
    Calls Tryd.prog 29 #[.int .i64 n] w fun e w' => e = .returned (.string (itoaB n)) ∧ Below w.heap.size w w' := by
  have hk : n.natAbs < 10 ^ 20 := by have := hn.1; have := hn.2; omega
  by_cases hn0 : n = 0
  · subst hn0
    go_enter Tryd.func29, Tryd.ntmps29
    go_wp2
    go_ret
    exact ⟨ret_str itoaB_zero.symm, Below.refl _ _⟩
  · have hne : (n == 0) = false := by simpa using hn0
    by_cases hneg : n < 0
    · have hlt : decide (n < 0) = true := decide_eq_true hneg
      go_enter Tryd.func29, Tryd.ntmps29
      go_wp2_with fail
      go_loopw [0, 3] (fun nv sv wr => ∃ (m : Int) (b : ByteArray), nv = .int .i64 m ∧ sv = .string b ∧ (n < 0 → m ≤ 0) ∧ (0 < n → 0 ≤ m) ∧ InR m ∧ digs m.natAbs ++ b.data.toList = digs n.natAbs ∧ Below w.heap.size w wr) (fun nv _ _ => (intOf nv).natAbs)
      case atStart => exact ⟨n, ⟨#[]⟩, rfl, rfl, fun h => by omega, fun h => by omega, hn, by simp, Below.refl _ _⟩
      case round =>
        obtain ⟨m, b, rfl, rfl, hs1, hs2, hmr, hd, B⟩ := hrel
        have hbs := digs_fit _ _ b hk hd
        have HD := Lib.hid hd
        clear hd
        by_cases hm0 : m = 0
        · subst hm0
          have hbd : b.data.toList = digs n.natAbs := by simpa [digs] using HD.out
          have HBD := Lib.hid hbd
          clear hbd HD hs1 hs2 hmr
          go_wp2
          go_ret
          exact ⟨ret_str ((congrArg itoaB (show n = -(n.natAbs : Int) by omega)).trans (itoaB_neg n.natAbs b (by omega) HBD.out)).symm, B⟩
        · have ht := tdm m
          have hmn : (m == 0) = false := by simpa using hm0
          obtain ⟨d, hdm⟩ : ∃ d, Int.tmod m 10 = d := ⟨_, rfl⟩
          obtain ⟨q, hqm⟩ : ∃ q, Int.tdiv m 10 = q := ⟨_, rfl⟩
          rw [hdm, hqm] at ht
          obtain ⟨t1, t2, t3, t4⟩ := ht
          have hmore := digs_more m.natAbs n.natAbs b (by omega) HD.out
          rw [← t1, ← t2] at hmore
          have hq1 : InR q := by
            have := hmr.1; have := hmr.2
            exact ⟨by omega, by omega⟩
          have wq : IntKind.i64.wrap q = q := by rw [IntKind.wrap_i64]; have := hq1.1; have := hq1.2; omega
          have hqs1 : n < 0 → q ≤ 0 := fun h => (t4 (hs1 h)).2
          have hqs2 : 0 < n → 0 ≤ q := fun h => (t3 (hs2 h)).2
          have hdb : d.natAbs < 10 := by omega
          have hms : q.natAbs < m.natAbs := by omega
          obtain ⟨r, hr⟩ : ∃ r : Nat, r = d.natAbs := ⟨_, rfl⟩
          rw [← hr] at hmore hdb
          rw [dig8] at hmore
          have HM := Lib.hid hmore
          have HS1 := Lib.hid hqs1
          have HS2 := Lib.hid hqs2
          have hu : (48 + (r : Int)) % 256 = 48 + r := by omega
          have hu2 : IntKind.u8.wrap (48 + (r : Int)) = 48 + r := by simp [IntKind.wrap, IntKind.bits, IntKind.signed]; omega
          have hcv := cv1 wr r hdb
          have w48 : IntKind.i64.wrap (48 + (r : Int)) = 48 + r := by rw [IntKind.wrap_i64]; omega
          clear hmore hqs1 hqs2 HD hs1 hs2 t1 t2 t3 t4
          by_cases hdn : d < 0
          · have hnd : IntKind.i64.wrap (-d) = (r : Int) := by rw [IntKind.wrap_i64]; omega
            clear hr
            go_wp2
            go_roundw
            case rel => exact ⟨q, _, rfl, rfl, HS1.out, HS2.out, hq1, HM.out, B.alloc B.size _⟩
            case measure => simp [intOf]; omega
          · have hdr : d = (r : Int) := by omega
            subst hdr
            clear hr hdn
            go_wp2
            go_roundw
            case rel => exact ⟨q, _, rfl, rfl, HS1.out, HS2.out, hq1, HM.out, B.alloc B.size _⟩
            case measure => simp [intOf]; omega
    · have hlt : decide (n < 0) = false := decide_eq_false hneg
      go_enter Tryd.func29, Tryd.ntmps29
      go_wp2_with fail
      go_loopw [0, 3] (fun nv sv wr => ∃ (m : Int) (b : ByteArray), nv = .int .i64 m ∧ sv = .string b ∧ (n < 0 → m ≤ 0) ∧ (0 < n → 0 ≤ m) ∧ InR m ∧ digs m.natAbs ++ b.data.toList = digs n.natAbs ∧ Below w.heap.size w wr) (fun nv _ _ => (intOf nv).natAbs)
      case atStart => exact ⟨n, ⟨#[]⟩, rfl, rfl, fun h => by omega, fun h => by omega, hn, by simp, Below.refl _ _⟩
      case round =>
        obtain ⟨m, b, rfl, rfl, hs1, hs2, hmr, hd, B⟩ := hrel
        have hbs := digs_fit _ _ b hk hd
        have HD := Lib.hid hd
        clear hd
        by_cases hm0 : m = 0
        · subst hm0
          have hbd : b.data.toList = digs n.natAbs := by simpa [digs] using HD.out
          have HBD := Lib.hid hbd
          clear hbd HD hs1 hs2 hmr
          go_wp2
          go_ret
          exact ⟨ret_str ((congrArg itoaB (show n = (n.natAbs : Int) by omega)).trans (itoaB_pos n.natAbs b (by omega) HBD.out)).symm, B⟩
        · have ht := tdm m
          have hmn : (m == 0) = false := by simpa using hm0
          obtain ⟨d, hdm⟩ : ∃ d, Int.tmod m 10 = d := ⟨_, rfl⟩
          obtain ⟨q, hqm⟩ : ∃ q, Int.tdiv m 10 = q := ⟨_, rfl⟩
          rw [hdm, hqm] at ht
          obtain ⟨t1, t2, t3, t4⟩ := ht
          have hmore := digs_more m.natAbs n.natAbs b (by omega) HD.out
          rw [← t1, ← t2] at hmore
          have hq1 : InR q := by
            have := hmr.1; have := hmr.2
            exact ⟨by omega, by omega⟩
          have wq : IntKind.i64.wrap q = q := by rw [IntKind.wrap_i64]; have := hq1.1; have := hq1.2; omega
          have hqs1 : n < 0 → q ≤ 0 := fun h => (t4 (hs1 h)).2
          have hqs2 : 0 < n → 0 ≤ q := fun h => (t3 (hs2 h)).2
          have hdb : d.natAbs < 10 := by omega
          have hms : q.natAbs < m.natAbs := by omega
          obtain ⟨r, hr⟩ : ∃ r : Nat, r = d.natAbs := ⟨_, rfl⟩
          rw [← hr] at hmore hdb
          rw [dig8] at hmore
          have HM := Lib.hid hmore
          have HS1 := Lib.hid hqs1
          have HS2 := Lib.hid hqs2
          have hu : (48 + (r : Int)) % 256 = 48 + r := by omega
          have hu2 : IntKind.u8.wrap (48 + (r : Int)) = 48 + r := by simp [IntKind.wrap, IntKind.bits, IntKind.signed]; omega
          have hcv := cv1 wr r hdb
          have w48 : IntKind.i64.wrap (48 + (r : Int)) = 48 + r := by rw [IntKind.wrap_i64]; omega
          clear hmore hqs1 hqs2 HD hs1 hs2 t1 t2 t3 t4
          by_cases hdn : d < 0
          · have hnd : IntKind.i64.wrap (-d) = (r : Int) := by rw [IntKind.wrap_i64]; omega
            clear hr
            go_wp2
            go_roundw
            case rel => exact ⟨q, _, rfl, rfl, HS1.out, HS2.out, hq1, HM.out, B.alloc B.size _⟩
            case measure => simp [intOf]; omega
          · have hdr : d = (r : Int) := by omega
            subst hdr
            clear hr hdn
            go_wp2
            go_roundw
            case rel => exact ⟨q, _, rfl, rfl, HS1.out, HS2.out, hq1, HM.out, B.alloc B.size _⟩
            case measure => simp [intOf]; omega
end Go.Proofs.YtpaoiiiceekkkaaDoor
end
section
namespace Go.Proofs.YtpaoiiiceekkkaaDoor
open Go.Shelf
set_option maxRecDepth 100000
def sh_lays156_ren : Go.Shelf.Ren := ⟨fun | 156 => 40 | 165 => 114 | 166 => 115 | 169 => 116 | 240 => 172 | 241 => 173 | 276 => 198 | 277 => 199 | n => n, fun | 31 => 53 | 9 => 9 | 3 => 3 | 4 => 4 | 0 => 0 | 20 => 20 | 72 => 92 | 76 => 96 | 70 => 90 | 37 => 86 | 75 => 95 | 127 => 133 | 164 => 145 | 5 => 5 | 80 => 68 | n => n, fun | n => n⟩
theorem sh_lays156 : Go.Proofs.Lays.n156 Tryd.prog sh_lays156_ren := {
  mixed := by kernel_rfl
  f156 := Tryd.func40.trans (congrArg some (by kernel_rfl))
  f165 := Tryd.func114.trans (congrArg some (by kernel_rfl))
  f166 := Tryd.func115.trans (congrArg some (by kernel_rfl))
  f169 := Tryd.func116.trans (congrArg some (by kernel_rfl))
  f240 := Tryd.func172.trans (congrArg some (by kernel_rfl))
  f241 := Tryd.func173.trans (congrArg some (by kernel_rfl))
  f276 := Tryd.func198.trans (congrArg some (by kernel_rfl))
  f277 := Tryd.func199.trans (congrArg some (by kernel_rfl))
  t0 := Tryd.underlying0
  a0 := Tryd.isAgg0
  z0 := Tryd.sizeOf0
  v0 := Tryd.zeroValue0
  t3 := Tryd.underlying3
  a3 := Tryd.isAgg3
  z3 := Tryd.sizeOf3
  v3 := Tryd.zeroValue3
  t4 := Tryd.underlying4
  a4 := Tryd.isAgg4
  z4 := Tryd.sizeOf4
  v4 := Tryd.zeroValue4
  t9 := Tryd.underlying9
  a9 := Tryd.isAgg9
  z9 := Tryd.sizeOf9
  v9 := Tryd.zeroValue9
  t20 := Tryd.underlying20
  a20 := Tryd.isAgg20
  z20 := Tryd.sizeOf20
  v20 := Tryd.zeroValue20
  t31 := Tryd.underlying53
  a31 := Tryd.isAgg53
  z31 := Tryd.sizeOf53
  v31 := Tryd.zeroValue53
  t37 := Tryd.underlying86
  a37 := Tryd.isAgg86
  z37 := Tryd.sizeOf86
  v37 := Tryd.zeroValue86
  t70 := Tryd.underlying90
  a70 := Tryd.isAgg90
  z70 := Tryd.sizeOf90
  v70 := Tryd.zeroValue90
  t72 := Tryd.underlying92
  a72 := Tryd.isAgg92
  z72 := Tryd.sizeOf92
  v72 := Tryd.zeroValue92
  t75 := Tryd.underlying95
  a75 := Tryd.isAgg95
  z75 := Tryd.sizeOf95
  v75 := Tryd.zeroValue95
  t76 := Tryd.underlying96
  a76 := Tryd.isAgg96
  z76 := Tryd.sizeOf96
  v76 := Tryd.zeroValue96
  t127 := Tryd.underlying133
  a127 := Tryd.isAgg133
  z127 := Tryd.sizeOf133
  v127 := Tryd.zeroValue133
  t164 := Tryd.underlying145
  a164 := Tryd.isAgg145
  z164 := Tryd.sizeOf145
  v164 := Tryd.zeroValue145 }
theorem sh_Builder_Extra_156 : Builder.Extra Tryd.prog sh_lays156_ren := {
  sizeBuilder := by kernel_rfl
  liesBuilder := by kernel_rfl
  t5 := Tryd.underlying5
  a5 := Tryd.isAgg5
  z5 := Tryd.sizeOf5
  v5 := Tryd.zeroValue5
  infoByte := by kernel_rfl
  cellsByte := by kernel_rfl
  sizeByte := by kernel_rfl
  neB5 := by decide }
open Go.RowKit in
theorem sh_strings_Join (bk o c : Nat) (xs : List ByteArray) (sep : ByteArray) (w : World) (hcells : ∀ (j : Nat) x, xs[j]? = some x → w.cell? ⟨bk, o + j, none⟩ = some (.string x)) (hbk : bk < w.heap.size) (hN : xs.length ≤ 140737488355328) (hcap : xs.length ≤ c) (hlen : (Lib.join (xs.map (·.data.toList)) sep.data.toList).length ≤ 140737488355328) :
    Calls Tryd.prog 40 #[.slice (some ⟨bk, o, none⟩) xs.length c, .string sep] w fun e w' => e = .returned (.string ⟨(Lib.join (xs.map (·.data.toList)) sep.data.toList).toArray⟩) ∧ Below w.heap.size w w' := Any.strings_Join sh_lays156 sh_Builder_Extra_156 bk o c xs sep w hcells hbk hN hcap hlen
open Go.RowKit in
theorem sh_strings_Join_none (a : Option Addr) (c : Nat) (sep : ByteArray) (w : World) :
    Calls Tryd.prog 40 #[.slice a 0 c, .string sep] w fun e w' => e = .returned (.string ⟨#[]⟩) ∧ w' = w := Any.strings_Join_none sh_lays156 sh_Builder_Extra_156 a c sep w
def sh_laysM171_ren : Go.Shelf.Ren := ⟨fun | 171 => 111 | 243 => 171 | 246 => 197 | 283 => 203 | 284 => 204 | 285 => 205 | 286 => 206 | 129 => 208 | 317 => 207 | 318 => 209 | 319 => 210 | 320 => 211 | 337 => 212 | 338 => 213 | n => n, fun | 3 => 3 | 9 => 9 | 2 => 2 | 4 => 4 | 171 => 154 | 0 => 0 | 53 => 151 | 37 => 86 | 5 => 5 | 173 => 156 | 212 => 159 | 51 => 149 | 20 => 20 | 213 => 160 | 46 => 101 | 232 => 161 | 233 => 162 | n => n, fun | 17 => 1 | 18 => 2 | 19 => 3 | n => n⟩
theorem sh_laysM171 : Go.Proofs.LaysM.n171 Tryd.prog sh_laysM171_ren := {
  mixed := by kernel_rfl
  f129 := Tryd.func208.trans (congrArg some (by kernel_rfl))
  f171 := Tryd.func111.trans (congrArg some (by kernel_rfl))
  f243 := Tryd.func171.trans (congrArg some (by kernel_rfl))
  f246 := Tryd.func197.trans (congrArg some (by kernel_rfl))
  f283 := Tryd.func203.trans (congrArg some (by kernel_rfl))
  f284 := Tryd.func204.trans (congrArg some (by kernel_rfl))
  f285 := Tryd.func205.trans (congrArg some (by kernel_rfl))
  f286 := Tryd.func206.trans (congrArg some (by kernel_rfl))
  f317 := Tryd.func207.trans (congrArg some (by kernel_rfl))
  f318 := Tryd.func209.trans (congrArg some (by kernel_rfl))
  f319 := Tryd.func210.trans (congrArg some (by kernel_rfl))
  f320 := Tryd.func211.trans (congrArg some (by kernel_rfl))
  f337 := Tryd.func212.trans (congrArg some (by kernel_rfl))
  f338 := Tryd.func213.trans (congrArg some (by kernel_rfl))
  t0 := Tryd.underlying0
  a0 := Tryd.isAgg0
  z0 := Tryd.sizeOf0
  v0 := Tryd.zeroValue0
  t2 := Tryd.underlying2
  a2 := Tryd.isAgg2
  z2 := Tryd.sizeOf2
  v2 := Tryd.zeroValue2
  t3 := Tryd.underlying3
  a3 := Tryd.isAgg3
  z3 := Tryd.sizeOf3
  v3 := Tryd.zeroValue3
  t4 := Tryd.underlying4
  a4 := Tryd.isAgg4
  z4 := Tryd.sizeOf4
  v4 := Tryd.zeroValue4
  t5 := Tryd.underlying5
  a5 := Tryd.isAgg5
  z5 := Tryd.sizeOf5
  v5 := Tryd.zeroValue5
  t9 := Tryd.underlying9
  a9 := Tryd.isAgg9
  z9 := Tryd.sizeOf9
  v9 := Tryd.zeroValue9
  t20 := Tryd.underlying20
  a20 := Tryd.isAgg20
  z20 := Tryd.sizeOf20
  v20 := Tryd.zeroValue20
  t37 := Tryd.underlying86
  a37 := Tryd.isAgg86
  z37 := Tryd.sizeOf86
  v37 := Tryd.zeroValue86
  t46 := Tryd.underlying101
  a46 := Tryd.isAgg101
  z46 := Tryd.sizeOf101
  v46 := Tryd.zeroValue101
  t51 := Tryd.underlying149
  a51 := Tryd.isAgg149
  z51 := Tryd.sizeOf149
  v51 := Tryd.zeroValue149
  t53 := Tryd.underlying151
  a53 := Tryd.isAgg151
  z53 := Tryd.sizeOf151
  v53 := Tryd.zeroValue151
  t171 := Tryd.underlying154
  a171 := Tryd.isAgg154
  z171 := Tryd.sizeOf154
  v171 := Tryd.zeroValue154
  t173 := Tryd.underlying156
  a173 := Tryd.isAgg156
  z173 := Tryd.sizeOf156
  v173 := Tryd.zeroValue156
  t212 := Tryd.underlying159
  a212 := Tryd.isAgg159
  z212 := Tryd.sizeOf159
  v212 := Tryd.zeroValue159
  t213 := Tryd.underlying160
  a213 := Tryd.isAgg160
  z213 := Tryd.sizeOf160
  t232 := Tryd.underlying161
  a232 := Tryd.isAgg161
  z232 := Tryd.sizeOf161
  v232 := Tryd.zeroValue161
  t233 := Tryd.underlying162
  a233 := Tryd.isAgg162
  z233 := Tryd.sizeOf162
  v233 := Tryd.zeroValue162
  g17 := by kernel_rfl
  g18 := by kernel_rfl
  g19 := by kernel_rfl
  i0 := by kernel_rfl
  i2 := by kernel_rfl
  i3 := by kernel_rfl
  i4 := by kernel_rfl
  i5 := by kernel_rfl
  i9 := by kernel_rfl
  i20 := by kernel_rfl
  i37 := by kernel_rfl
  i46 := by kernel_rfl
  i51 := by kernel_rfl
  i53 := by kernel_rfl
  i171 := by kernel_rfl
  i173 := by kernel_rfl
  i212 := by kernel_rfl
  i232 := by kernel_rfl
  i233 := by kernel_rfl
  m17 := by kernel_rfl
  m18 := by kernel_rfl
  m19 := by kernel_rfl }
open Go.RowKit Go.Sort Go.Lib in
theorem sh_strconv_Itoa (n : Int) (h0 : -9223372036854775808 ≤ n) (h1 : n ≤ 9223372036854775807) (w : World) (htab : Lib.TabIs Tryd.prog w "internal/strconv.uint64pow10" .u64 Lib.pow10Tab) :
    Calls Tryd.prog 111 #[.int .i64 n] w fun e w' => e = .returned (.string ⟨(Lib.itoa n).toArray⟩) ∧ ∃ k os, w' = grow (w.drewN k) os := Any.strconv_Itoa sh_laysM171 n h0 h1 w htab
def sh_lays110_ren : Go.Shelf.Ren := ⟨fun | 110 => 39 | 109 => 113 | n => n, fun | 31 => 53 | 9 => 9 | 4 => 4 | 3 => 3 | 0 => 0 | n => n, fun | n => n⟩
theorem sh_lays110 : Go.Proofs.Lays.n110 Tryd.prog sh_lays110_ren := {
  mixed := by kernel_rfl
  f109 := Tryd.func113.trans (congrArg some (by kernel_rfl))
  f110 := Tryd.func39.trans (congrArg some (by kernel_rfl))
  t0 := Tryd.underlying0
  a0 := Tryd.isAgg0
  z0 := Tryd.sizeOf0
  v0 := Tryd.zeroValue0
  t3 := Tryd.underlying3
  a3 := Tryd.isAgg3
  z3 := Tryd.sizeOf3
  v3 := Tryd.zeroValue3
  t4 := Tryd.underlying4
  a4 := Tryd.isAgg4
  z4 := Tryd.sizeOf4
  v4 := Tryd.zeroValue4
  t9 := Tryd.underlying9
  a9 := Tryd.isAgg9
  z9 := Tryd.sizeOf9
  v9 := Tryd.zeroValue9
  t31 := Tryd.underlying53
  a31 := Tryd.isAgg53
  z31 := Tryd.sizeOf53
  v31 := Tryd.zeroValue53 }
open Go.Lib in
theorem sh_slices_Contains_string (b off n c : Nat) (zs : List ByteArray) (x : ByteArray) (w : World) (hz : n ≤ zs.length) (hbig : n ≤ 9223372036854775807) (hc : ∀ j, j < zs.length → w.cell? ⟨b, off + j, none⟩ = some (.string (zs.getD j ByteArray.empty))) :
    Calls Tryd.prog 39 #[.slice (some ⟨b, off, none⟩) n c, .string x] w fun e w' => e = .returned (.bool (Lib.containsS (zs.take n) x)) ∧ w' = w := Any.slices_Contains_string sh_lays110 b off n c zs x w hz hbig hc
end Go.Proofs.YtpaoiiiceekkkaaDoor
end
section
namespace Go.Proofs.YtpaoiiiceekkkaaDoor
open Go.RowKit Go.G5

/-- the table that strconv reads holds the powers of ten -/
def Pow (w : World) : Prop := Lib.TabIs Tryd.prog w "internal/strconv.uint64pow10" .u64 Lib.pow10Tab
theorem pow_named : (Tryd.prog.globalNamed "internal/strconv.uint64pow10").isSome = true := by kernel_rfl
theorem Pow.keep {w w' : World} (h : Pow w) (hb : Below w.heap.size w w') : Pow w' := by
  obtain ⟨g, hg⟩ := Option.isSome_iff_exists.1 pow_named
  exact Go.Joins.var_stays hg h hb (Nat.le_refl _)
theorem below_more (w : World) (k : Nat) (os : Array Obj) : Below w.heap.size w (Sort.grow (w.drewN k) os) := by
  refine ⟨rfl, rfl, rfl, ?_, fun b hb => ?_⟩
  · show w.heap.size ≤ (w.heap ++ os).size
    simp
  · show (w.heap ++ os)[b]? = w.heap[b]?
    rw [Array.getElem?_append_left hb]
set_option maxRecDepth 100000 in
theorem fmtI_any (n : Int) (hn : InR n) (w : World) (hp : Pow w) :
    Calls Tryd.prog 35 #[.int .i64 n] w fun e w' => e = .returned (.string (itoaB n)) ∧ Below w.heap.size w w' := by
  go_enter Tryd.func35, Tryd.ntmps35
  go_wp2_with (go_at_call 111; refine (sh_strconv_Itoa n hn.1 hn.2 _ hp).mono ?_; rintro e w' ⟨rfl, k, os, rfl⟩)
  go_ret
  exact ⟨rfl, below_more w k os⟩
end Go.Proofs.YtpaoiiiceekkkaaDoor
end
section
namespace Go.Proofs.YtpaoiiiceekkkaaDoor
open Go.ChangeShapes Go.WideShapes Go.ChangeAt Go.RowKit Go.G5
set_option maxRecDepth 100000

/-- THE FRAME OF A LAW's ROW, with tables laid: the call returns true and of old memory nothing turns -/
theorem law_lift_laid {f : FuncId} {fn : Func} {s : ChangeSpec} (laid : List (String × DataW Unit)) (os : Os) (started : os.Started) (H : Type) (enc : TypeId × Value → H)
    (hfn : Tryd.prog.funcs[f]? = some fn) (noInit : Tryd.prog.inits.idxOf? f = none) (hv : s.vars = []) (hres : fn.resultTypes = #[4])
    (hread : (fn.params.toList.all fun t => Tryd.prog.readableRec t && decide (t < Tryd.prog.types.size)) = true)
    (hspec : ∀ ds : List (DataW H), ds.length = fn.params.size → s.fn H ds = { results := [.lit (.bool true)], args := ds, vars := [] })
    (witness : ∃ (w : World) (tape : Tape) (i : Input), w.os = os ∧ (w.forCall tape i).Shaped Tryd.prog ∧ i.vars = [] ∧ Input.okWide Tryd.prog (w.forCall tape i) .any w.heap.size f i ∧
      ((s.pre enc Tryd.prog fn [] false (w.forCall tape i).memory i.args ∧ laidMetH Tryd.prog laid (w.forCall tape i).memory) ∧ sizedMet enc Tryd.prog fn (OpenSpec.ofChange s) false (w.forCall tape i).memory i.args) ∧ ({} : Assume).holds Tryd.prog (lone (Frame.enter Tryd.prog f i.args .normal) [] (w.forCall tape i)))
    (contract : ∀ (W : World) (base : Nat) (args : Array Value) (ds : List (DataW H)) (p : List MemPlace), (∀ (j : Nat) t v, fn.params[j]? = some t → args[j]? = some v → Value.okWide Tryd.prog W .any base t v) →
      DataW.TrodAll enc Tryd.prog W 0 (fun _ => true) true fn.params.toList args.toList ds p → laidMetH Tryd.prog laid W → Calls Tryd.prog f args W fun e W' => e = .returned (.bool true) ∧ Below W.heap.size W W') :
    ReturnsInHanded {} Tryd.checked os f .any (fun w args => (s.pre enc Tryd.prog fn [] false w args ∧ laidMetH Tryd.prog laid w) ∧ sizedMet enc Tryd.prog fn (OpenSpec.ofChange s) false w args) (s.post enc Tryd.prog fn false true false false) := by
  refine returnsInHanded_of_change_and (C := Tryd.checked) (X := fun w _ => laidMetH Tryd.prog laid w) (fun _ _ _ hh h => h.of_heap hh) own started noInit hfn witness ?_
  intro W base args ds gs before hval0 hW hcnd _ hL _
  have hval : ∀ (j : Nat) t v, fn.params[j]? = some t → args[j]? = some v → Value.okWide Tryd.prog W .any base t v := hval0
  have hlt0 := hW.lt
  have hW' := hW
  obtain ⟨p, q, hA0, hV, rfl, hfz, hnd⟩ := hW
  have hA : DataW.TrodAll enc Tryd.prog W 0 (fun _ => true) true fn.params.toList args.toList ds p := hA0
  rw [hv] at hV
  obtain ⟨rfl, rfl⟩ := trodVars_none hV
  refine (contract W base args ds p hval hA hL).mono fun e W' ⟨he, hb⟩ => ?_
  have hlen : ds.length = fn.params.size := by
    have := trodAll_len hA
    simpa using this
  refine ⟨_, he, ds, [], p ++ [], [], p, [], hW', ?_, ?_, ?_, hb.frame _, fun h => by cases h⟩
  · rw [List.append_nil, hspec ds hlen, hres]
    exact trodAll_mk1 (shut_bool Tryd.underlying4 true)
  · rw [List.append_nil, hspec ds hlen]
    exact trodAll_below laidOut hb hread hA fun x hx => by simpa using hlt0 x (by simp [hx])
  · rw [List.append_nil, hspec ds hlen, hv]
    exact hV
theorem pow_of_third {W : World} {a b : String × DataW Unit} (h : laidMet Tryd.prog [a, b, ("internal/strconv.uint64pow10", Lib.tabData .u64 Lib.pow10Tab)] W) : Pow W :=
  Lib.tabIs_of_head (g := 1) (t := 159) (e := 151) (n := 20) (by kernel_rfl) (by kernel_rfl) (by kernel_rfl) (by kernel_rfl) (by kernel_rfl) (by kernel_rfl) (laidMet.tail (laidMet.tail h))
end Go.Proofs.YtpaoiiiceekkkaaDoor
end
section
namespace Go.G5
open Go Go.RowKit
structure StrElem (P : Program) (E : TypeId) : Prop where
  info : (P.info? E).map (fun i => (i.zero, i.size, i.bytes)) = some (some (.string ByteArray.empty), 1, 16)
theorem StrElem.get {P : Program} {E : TypeId} (h : StrElem P E) : ∃ i, P.info? E = some i ∧ i.zero = some (.string ByteArray.empty) ∧ i.size = 1 ∧ i.bytes = 16 := info_parts h.info
/-- the slice value v owns a row from block B on that reads as the texts xs -/
def OwnS (E : TypeId) (B : Nat) (w : World) (v : Value) (xs : List ByteArray) : Prop := w.ownsRow B E 1 v xs.length (xs.map Value.string)
theorem OwnS.nil (E : TypeId) (B : Nat) (w : World) : OwnS E B w (.slice none 0 0) [] := World.ownsRow_nil _ _ _ _
theorem OwnS.below {E : TypeId} {B B' : Nat} {w w' : World} {v : Value} {l : List ByteArray} (h : OwnS E B w v l) (hb : Below B' w w') (hB : w.heap.size ≤ B') : OwnS E B w' v l := by
  obtain ⟨h0, h1⟩ := h
  refine ⟨h0, ?_⟩
  rcases h1 with h1 | ⟨g, cap, cur, rfl, hBg, hg, r⟩
  · exact .inl h1
  · exact .inr ⟨g, cap, cur, rfl, hBg, by rw [hb.block g (by have := (Array.getElem?_eq_some_iff.1 hg).1; omega)]; exact hg, r⟩
theorem OwnS.keep {E : TypeId} {B : Nat} {W w1 : World} {v : Value} {l : List ByteArray} (h : OwnS E B W v l) (hb : Below W.heap.size W w1) : OwnS E B w1 v l := h.below hb (Nat.le_refl _)
theorem OwnS.alloc {E : TypeId} {B : Nat} {w : World} {v : Value} {l : List ByteArray} (h : OwnS E B w v l) (o : Obj) : OwnS E B (w.alloc o) v l := h.keep (bl1 w o)
theorem OwnS.drewN {E : TypeId} {B : Nat} {w : World} {v : Value} {l : List ByteArray} (h : OwnS E B w v l) (n : Nat) : OwnS E B (w.drewN n) v l := h.keep ((Below.refl w.heap.size w).drewN' n)
theorem OwnS.mono {E : TypeId} {B B' : Nat} {w : World} {v : Value} {l : List ByteArray} (h : OwnS E B w v l) (hB : B' ≤ B) : OwnS E B' w v l := by
  obtain ⟨h0, h1⟩ := h
  refine ⟨h0, ?_⟩
  rcases h1 with h1 | ⟨g, cap, cur, rfl, hBg, r⟩
  · exact .inl h1
  · exact .inr ⟨g, cap, cur, rfl, by omega, r⟩
theorem OwnS.lt {E : TypeId} {B : Nat} {w : World} {v : Value} {l : List ByteArray} (h : OwnS E B w v l) : ∀ k, v.ownBlock = some k → B ≤ k ∧ k < w.heap.size := World.ownsRow.lt h
theorem OwnS.grown {E : TypeId} {B : Nat} {w w' : World} {row : Option Nat} {v : Value} {l : List ByteArray} (h : OwnS E B w v l) (hg : w.grownBy w' row) (hne : v.ownBlock = none ∨ v.ownBlock ≠ row) : OwnS E B w' v l := World.ownsRow.kept h hg hne
theorem OwnS.lit {E : TypeId} {B : Nat} (w : World) (xs : List ByteArray) (n : Nat) (hn : n = xs.length) (hl : n ≤ maxLen) (hB : B ≤ w.heap.size) : OwnS E B (w.alloc (.cells (xs.map Value.string).toArray E)) (.slice (some ⟨w.heap.size, 0, none⟩) n n) xs := by
  subst hn
  have this : (w.alloc (.cells (xs.map Value.string).toArray E)).ownsRow B E 1 (.slice (some ⟨w.heap.size, 0, none⟩) xs.length xs.length) xs.length (xs.map Value.string).toArray.toList := World.ownsRow_lit w _ xs.length hB hl (by simp)
  simpa [OwnS] using this
/-- where the texts lie -/
theorem OwnS.at {E : TypeId} {B : Nat} {w : World} {v : Value} {xs : List ByteArray} (h : OwnS E B w v xs) : (∃ a c, v = .slice a 0 c ∧ xs = []) ∨ ∃ g c, v = .slice (some ⟨g, 0, none⟩) xs.length c ∧ xs.length ≤ c ∧ g < w.heap.size ∧ ∀ (j : Nat) x, xs[j]? = some x → w.cell? ⟨g, 0 + j, none⟩ = some (.string x) := by
  have h2 := h
  obtain ⟨h0, h1⟩ := h
  rcases h1 with ⟨rfl, hn⟩ | ⟨g, cap, cur, rfl, hB, hg, hn, hm, hcs, ht⟩
  · exact .inl ⟨none, 0, rfl, List.eq_nil_of_length_eq_zero hn⟩
  · refine .inr ⟨g, cap, rfl, hn, (Array.getElem?_eq_some_iff.1 hg).1, fun j x hx => ?_⟩
    have hj : j < xs.length := (List.getElem?_eq_some_iff.1 hx).1
    rw [Nat.zero_add, World.ownsRow.cellAt h2 j (by omega)]
    simp [hx]
theorem OwnS.shape3 {E : TypeId} {B : Nat} {w : World} {v : Value} {xs : List ByteArray} (h : OwnS E B w v xs) : ∃ a n c, v = .slice a n c := by
  rcases h.at with ⟨a, c, rfl, _⟩ | ⟨g, c, rfl, _⟩
  · exact ⟨_, _, _, rfl⟩
  · exact ⟨_, _, _, rfl⟩
/-- out = append(out, ys...), ys the texts of a fresh row -/
theorem wpList_appendT {P : Program} {w : World} {ops : Array Oper} {rest : List Oper} {o : Oper} {a : Act} {Q : Exit → Act → World → Prop} (hgd : o.guard = none) (s x : Operand) (t : TypeId)
    (ho : o.op = .call { callee := .builtin .append, args := #[s, x], argTypes := #[t, t] })
    (E : TypeId) (ht : P.underlying t = some (.slice E)) (hE : StrElem P E) (B : Nat) (v : Value) (l ys : List ByteArray) (b m c : Nat) (hs : a.eval s = v) (hx : a.eval x = .slice (some ⟨b, 0, none⟩) m c) (hm : m = ys.length)
    (hy : ∀ (j : Nat) y, ys[j]? = some y → w.cell? ⟨b, 0 + j, none⟩ = some (.string y))
    (hown : OwnS E B w v l) (hlen : l.length + ys.length < 1000000) (hB : B ≤ w.heap.size)
    (h : ∀ v' w', OwnS E B w' v' (l ++ ys) → w.grownBy w' v.ownBlock → wpList P ops Q rest (a.put o.dst v') w') : wpList P ops Q (o :: rest) a w := by
  obtain ⟨i, hi, hz, h1, h8⟩ := hE.get
  subst hm
  refine wpList_append_own w hgd s x t ho B E i (.string ByteArray.empty) 1 16 ht hi hz h1 h8 rfl (by decide) v l.length (l.map Value.string) hs hown ⟨b, 0, none⟩ ys.length c (ys.map Value.string) hx (by simp) ?_ ?_ ?_ ?_ hB ?_
  · intro j u hj
    rw [List.getElem?_map] at hj
    cases hq : ys[j]? with
    | none => rw [hq] at hj; cases hj
    | some y =>
      rw [hq] at hj
      cases hj
      have := hy j y hq
      have e : (⟨b, 0, none⟩ : Addr).add j = ⟨b, 0 + j, none⟩ := by
        unfold Addr.add
        by_cases hj0 : j = 0
        · subst hj0; simp
        · simp [hj0]
      rw [e]; exact this
  · intro u hu
    obtain ⟨y, _, rfl⟩ := List.mem_map.1 hu
    rfl
  · unfold maxLen; omega
  · omega
  · intro v' w' hown' hg _
    refine h v' w' ?_ hg
    simpa [OwnS] using hown'
/-- make([]string, 0, n) -/
theorem wpList_makeT {P : Program} {w : World} {ops : Array Oper} {rest : List Oper} {o : Oper} {a : Act} {Q : Exit → Act → World → Prop} (hg : o.guard = none) (x c : Operand) (t : TypeId) (hop : o.op = Op.makeSlice t x c)
    (E : TypeId) (ht : P.underlying t = some (.slice E)) (hE : StrElem P E) (n : Nat) (C : Int) (hl : a.eval x = .int .i64 0) (hc : a.eval c = .int .i64 C) (hC : C = (n : Int)) (hn : n ≤ 1000000)
    (hK : ∀ w', OwnS E w.heap.size w' (.slice (some ⟨w.heap.size, 0, none⟩) 0 n) [] → w.grownBy w' none → wpList P ops Q rest (a.put o.dst (.slice (some ⟨w.heap.size, 0, none⟩) 0 n)) w') : wpList P ops Q (o :: rest) a w := by
  obtain ⟨i, hi, hz, h1, h8⟩ := hE.get
  exact wpList_make_own w hg x c t hop w.heap.size E i (.string ByteArray.empty) 1 ht hi hz h1 .i64 .i64 C n hl hc hC (by rw [h8]; omega) (by unfold maxLen; omega) (Nat.le_refl _) hK
end Go.G5
namespace Go.Proofs.YtpaoiiiceekkkaaDoor
open Go.RowKit Go.G5
theorem strElem : StrElem Tryd.prog 9 := ⟨by kernel_rfl⟩
/-- strings.Join of an own row -/
theorem join_own (B : Nat) (w : World) (v : Value) (xs : List ByteArray) (sep : ByteArray) (h : OwnS 9 B w v xs) (hlen : (joinB sep xs).size ≤ 100000000) (hn : xs.length ≤ 1000000) :
    Calls Tryd.prog 40 #[v, .string sep] w fun e w' => e = .returned (.string (joinB sep xs)) ∧ Below w.heap.size w w' := by
  rcases h.at with ⟨a, c, rfl, rfl⟩ | ⟨g, c, rfl, hc, hg, hcell⟩
  · refine (sh_strings_Join_none a c sep w).mono ?_
    rintro e w' ⟨rfl, rfl⟩
    exact ⟨rfl, Below.refl _ _⟩
  · refine (sh_strings_Join g 0 c xs sep w hcell hg (by omega) hc ?_).mono ?_
    · rw [ba_size] at hlen
      have : (joinB sep xs).data.toList = Lib.join (xs.map (·.data.toList)) sep.data.toList := rfl
      rw [← this]; omega
    · rintro e w' ⟨rfl, hb⟩
      exact ⟨rfl, hb⟩
end Go.Proofs.YtpaoiiiceekkkaaDoor
end
