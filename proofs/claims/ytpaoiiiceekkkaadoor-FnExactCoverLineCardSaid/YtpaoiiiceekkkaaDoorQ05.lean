/- Numerals: the second program. Contracts of the library at this program, laid by the kit's commands. -/
import Derived.Test.YtpaoiiiceekkkaaDoorQ04
import Derived.Laws.IdiomStrings
import Derived.Shelf.Strings.Builder1
import Derived.Shelf.Strings.Builder2
import Derived.Shelf.Strings.OnBuilder
import Derived.Shelf.Strconv.Itoa0
import Derived.Shelf.Strconv.Itoa1
import Derived.Shelf.LaysM
import Derived.Shelf.Strconv.Itoa2
import Derived.Shelf.Strconv.Itoa3
import Derived.Shelf.Slices.Turned
import Derived.Shelf.Slices.Reverse
import Derived.Shelf.Slices.Equal
import Derived.Ground.Names2Prog
import Derived.Shelf.Slices.Clone
import Derived.Shelf.Slices.Empties2
import Derived.Test.YtpaoiiiceekkkaaDoorProg
section
namespace Go.Proofs.YtpaoiiiceekkkaaDoor
open Go.RowKit Go.G5

theorem cv1 (w : World) (r : Nat) (hr : r < 10) : (convert 86 9 (.slice (some ⟨w.heap.size, 0, none⟩) 1 1)).run Tryd.prog (w.alloc (.cells #[.int .u8 (48 + (r : Int))] 5)) = .ok (.string ⟨#[UInt8.ofNat (48 + r)]⟩) (w.alloc (.cells #[.int .u8 (48 + (r : Int))] 5)) := by
  refine run_convert_bytes_back (P := Tryd.prog) _ 86 9 5 ⟨w.heap.size, 0, none⟩ 1 [UInt8.ofNat (48 + r)] Tryd.underlying86 Tryd.underlying5 Tryd.underlying9 ?_
  intro j hj
  have hj0 : j = 0 := by simpa using hj
  subst hj0
  have h1 : (UInt8.ofNat (48 + r)).toNat = 48 + r := by
    rw [UInt8.toNat_ofNat']; omega
  show (w.alloc _).cell? ⟨w.heap.size, 0, none⟩ = some (.int .u8 ((UInt8.ofNat (48 + r)).toNat : Int))
  rw [cell_new w _ _ 0 (.int .u8 (48 + (r : Int))) rfl, h1]
  congr 2
theorem dig8 (r : Nat) : UInt8.ofNat (48 + r) = 48 + UInt8.ofNat r := by simp
theorem ret_str {a b : ByteArray} (h : a = b) : Ending.returned (.string a) = .returned (.string b) := by rw [h]
theorem itoaB_zero : itoaB 0 = ⟨#[48]⟩ := by
  refine ba_ext ?_
  show Lib.itoa 0 = [48]
  unfold Lib.itoa
  rw [if_neg (by decide), Lib.decDigits]; rfl
theorem itoaB_pos (k : Nat) (b : ByteArray) (h : 0 < k) (hb : b.data.toList = digs k) : itoaB (k : Int) = b := by
  refine ba_ext ?_
  rw [hb]
  show Lib.itoa (k : Int) = _
  unfold Lib.itoa digs
  rw [if_neg (by omega), if_neg (by omega), Int.toNat_natCast]
theorem itoaB_neg (k : Nat) (b : ByteArray) (h : 0 < k) (hb : b.data.toList = digs k) : itoaB (-(k : Int)) = ⟨#[45]⟩ ++ b := by
  refine ba_ext ?_
  rw [ba_app, hb]
  show Lib.itoa (-(k : Int)) = [45] ++ _
  unfold Lib.itoa digs
  rw [if_pos (by omega), if_neg (by omega), Int.natAbs_neg, Int.natAbs_natCast]; rfl
theorem digs_len (k : Nat) (h : k < 10 ^ 20) : (digs k).length ≤ 20 := by
  unfold digs
  split
  · simp
  · exact decDigits_len 20 k h (by decide)
theorem digs_more (j k : Nat) (b : ByteArray) (hj : 0 < j) (h : digs j ++ b.data.toList = digs k) : digs (j / 10) ++ ((⟨#[UInt8.ofNat (48 + j % 10)]⟩ : ByteArray) ++ b).data.toList = digs k := by
  rw [ba_app, ← h, digs_step j hj, List.append_assoc]
theorem digs_fit (j k : Nat) (b : ByteArray) (hk : k < 10 ^ 20) (h : digs j ++ b.data.toList = digs k) : b.size ≤ 20 := by
  have h1 := digs_len k hk
  rw [← h, List.length_append] at h1
  rw [ba_size]; omega

theorem tdm (m : Int) : (Int.tmod m 10).natAbs = m.natAbs % 10 ∧ (Int.tdiv m 10).natAbs = m.natAbs / 10 ∧ (0 ≤ m → 0 ≤ Int.tmod m 10 ∧ 0 ≤ Int.tdiv m 10) ∧ (m ≤ 0 → Int.tmod m 10 ≤ 0 ∧ Int.tdiv m 10 ≤ 0) := by
  rcases Int.le_total 0 m with h | h
  · obtain ⟨k, rfl⟩ := Int.eq_ofNat_of_zero_le h
    have e1 : Int.tmod (k : Int) 10 = ((k % 10 : Nat) : Int) := by rw [Int.tmod_eq_emod_of_nonneg (by omega)]; rfl
    have e2 : Int.tdiv (k : Int) 10 = ((k / 10 : Nat) : Int) := by rw [Int.tdiv_eq_ediv_of_nonneg (by omega)]; rfl
    rw [e1, e2]
    refine ⟨by omega, by omega, fun _ => ⟨by omega, by omega⟩, fun h2 => ?_⟩
    have : k = 0 := by omega
    subst this; simp
  · obtain ⟨k, rfl⟩ : ∃ k : Nat, m = -(k : Int) := ⟨m.natAbs, by omega⟩
    have e1 : Int.tmod (-(k : Int)) 10 = -((k % 10 : Nat) : Int) := by rw [Int.neg_tmod, Int.tmod_eq_emod_of_nonneg (by omega)]; rfl
    have e2 : Int.tdiv (-(k : Int)) 10 = -((k / 10 : Nat) : Int) := by rw [Int.neg_tdiv, Int.tdiv_eq_ediv_of_nonneg (by omega)]; rfl
    rw [e1, e2]
    refine ⟨by omega, by omega, fun h2 => ?_, fun _ => ⟨by omega, by omega⟩⟩
    have : k = 0 := by omega
    subst this; simp

set_option maxHeartbeats 1000000 in
set_option maxRecDepth 100000 in
theorem fmtS_any (n : Int) (hn : InR n) (w : World) :
    Calls Tryd.prog 29 #[.int .i64 n] w fun e w' => e = .returned (.string (itoaB n)) ∧ Below w.heap.size w w' := by
  have hk : n.natAbs < 10 ^ 20 := by have := hn.1; have := hn.2; omega
  by_cases hn0 : n = 0
  · subst hn0
    go_enter Tryd.func29, Tryd.ntmps29
    go_wp2
    go_ret
    exact ⟨ret_str itoaB_zero.symm, Below.refl _ _⟩
  · have hne : (n == 0) = false := by simpa using hn0
    by_cases hneg : n < 0
    · have hlt : decide (n < 0) = true := decide_eq_true hneg
      go_enter Tryd.func29, Tryd.ntmps29
      go_wp2_with fail
      go_loopw [0, 3] (fun nv sv wr => ∃ (m : Int) (b : ByteArray), nv = .int .i64 m ∧ sv = .string b ∧ (n < 0 → m ≤ 0) ∧ (0 < n → 0 ≤ m) ∧ InR m ∧ digs m.natAbs ++ b.data.toList = digs n.natAbs ∧ Below w.heap.size w wr) (fun nv _ _ => (intOf nv).natAbs)
      case atStart => exact ⟨n, ⟨#[]⟩, rfl, rfl, fun h => by omega, fun h => by omega, hn, by simp, Below.refl _ _⟩
      case round =>
        obtain ⟨m, b, rfl, rfl, hs1, hs2, hmr, hd, B⟩ := hrel
        have hbs := digs_fit _ _ b hk hd
        have HD := Lib.hid hd
        clear hd
        by_cases hm0 : m = 0
        · subst hm0
          have hbd : b.data.toList = digs n.natAbs := by simpa [digs] using HD.out
          have HBD := Lib.hid hbd
          clear hbd HD hs1 hs2 hmr
          go_wp2
          go_ret
          exact ⟨ret_str ((congrArg itoaB (show n = -(n.natAbs : Int) by omega)).trans (itoaB_neg n.natAbs b (by omega) HBD.out)).symm, B⟩
        · have ht := tdm m
          have hmn : (m == 0) = false := by simpa using hm0
          obtain ⟨d, hdm⟩ : ∃ d, Int.tmod m 10 = d := ⟨_, rfl⟩
          obtain ⟨q, hqm⟩ : ∃ q, Int.tdiv m 10 = q := ⟨_, rfl⟩
          rw [hdm, hqm] at ht
          obtain ⟨t1, t2, t3, t4⟩ := ht
          have hmore := digs_more m.natAbs n.natAbs b (by omega) HD.out
          rw [← t1, ← t2] at hmore
          have hq1 : InR q := by
            have := hmr.1; have := hmr.2
            exact ⟨by omega, by omega⟩
          have wq : IntKind.i64.wrap q = q := by rw [IntKind.wrap_i64]; have := hq1.1; have := hq1.2; omega
          have hqs1 : n < 0 → q ≤ 0 := fun h => (t4 (hs1 h)).2
          have hqs2 : 0 < n → 0 ≤ q := fun h => (t3 (hs2 h)).2
          have hdb : d.natAbs < 10 := by omega
          have hms : q.natAbs < m.natAbs := by omega
          obtain ⟨r, hr⟩ : ∃ r : Nat, r = d.natAbs := ⟨_, rfl⟩
          rw [← hr] at hmore hdb
          rw [dig8] at hmore
          have HM := Lib.hid hmore
          have HS1 := Lib.hid hqs1
          have HS2 := Lib.hid hqs2
          have hu : (48 + (r : Int)) % 256 = 48 + r := by omega
          have hu2 : IntKind.u8.wrap (48 + (r : Int)) = 48 + r := by simp [IntKind.wrap, IntKind.bits, IntKind.signed]; omega
          have hcv := cv1 wr r hdb
          have w48 : IntKind.i64.wrap (48 + (r : Int)) = 48 + r := by rw [IntKind.wrap_i64]; omega
          clear hmore hqs1 hqs2 HD hs1 hs2 t1 t2 t3 t4
          by_cases hdn : d < 0
          · have hnd : IntKind.i64.wrap (-d) = (r : Int) := by rw [IntKind.wrap_i64]; omega
            clear hr
            go_wp2
            go_roundw
            case rel => exact ⟨q, _, rfl, rfl, HS1.out, HS2.out, hq1, HM.out, B.alloc B.size _⟩
            case measure => simp [intOf]; omega
          · have hdr : d = (r : Int) := by omega
            subst hdr
            clear hr hdn
            go_wp2
            go_roundw
            case rel => exact ⟨q, _, rfl, rfl, HS1.out, HS2.out, hq1, HM.out, B.alloc B.size _⟩
            case measure => simp [intOf]; omega
    · have hlt : decide (n < 0) = false := decide_eq_false hneg
      go_enter Tryd.func29, Tryd.ntmps29
      go_wp2_with fail
      go_loopw [0, 3] (fun nv sv wr => ∃ (m : Int) (b : ByteArray), nv = .int .i64 m ∧ sv = .string b ∧ (n < 0 → m ≤ 0) ∧ (0 < n → 0 ≤ m) ∧ InR m ∧ digs m.natAbs ++ b.data.toList = digs n.natAbs ∧ Below w.heap.size w wr) (fun nv _ _ => (intOf nv).natAbs)
      case atStart => exact ⟨n, ⟨#[]⟩, rfl, rfl, fun h => by omega, fun h => by omega, hn, by simp, Below.refl _ _⟩
      case round =>
        obtain ⟨m, b, rfl, rfl, hs1, hs2, hmr, hd, B⟩ := hrel
        have hbs := digs_fit _ _ b hk hd
        have HD := Lib.hid hd
        clear hd
        by_cases hm0 : m = 0
        · subst hm0
          have hbd : b.data.toList = digs n.natAbs := by simpa [digs] using HD.out
          have HBD := Lib.hid hbd
          clear hbd HD hs1 hs2 hmr
          go_wp2
          go_ret
          exact ⟨ret_str ((congrArg itoaB (show n = (n.natAbs : Int) by omega)).trans (itoaB_pos n.natAbs b (by omega) HBD.out)).symm, B⟩
        · have ht := tdm m
          have hmn : (m == 0) = false := by simpa using hm0
          obtain ⟨d, hdm⟩ : ∃ d, Int.tmod m 10 = d := ⟨_, rfl⟩
          obtain ⟨q, hqm⟩ : ∃ q, Int.tdiv m 10 = q := ⟨_, rfl⟩
          rw [hdm, hqm] at ht
          obtain ⟨t1, t2, t3, t4⟩ := ht
          have hmore := digs_more m.natAbs n.natAbs b (by omega) HD.out
          rw [← t1, ← t2] at hmore
          have hq1 : InR q := by
            have := hmr.1; have := hmr.2
            exact ⟨by omega, by omega⟩
          have wq : IntKind.i64.wrap q = q := by rw [IntKind.wrap_i64]; have := hq1.1; have := hq1.2; omega
          have hqs1 : n < 0 → q ≤ 0 := fun h => (t4 (hs1 h)).2
          have hqs2 : 0 < n → 0 ≤ q := fun h => (t3 (hs2 h)).2
          have hdb : d.natAbs < 10 := by omega
          have hms : q.natAbs < m.natAbs := by omega
          obtain ⟨r, hr⟩ : ∃ r : Nat, r = d.natAbs := ⟨_, rfl⟩
          rw [← hr] at hmore hdb
          rw [dig8] at hmore
          have HM := Lib.hid hmore
          have HS1 := Lib.hid hqs1
          have HS2 := Lib.hid hqs2
          have hu : (48 + (r : Int)) % 256 = 48 + r := by omega
          have hu2 : IntKind.u8.wrap (48 + (r : Int)) = 48 + r := by simp [IntKind.wrap, IntKind.bits, IntKind.signed]; omega
          have hcv := cv1 wr r hdb
          have w48 : IntKind.i64.wrap (48 + (r : Int)) = 48 + r := by rw [IntKind.wrap_i64]; omega
          clear hmore hqs1 hqs2 HD hs1 hs2 t1 t2 t3 t4
          by_cases hdn : d < 0
          · have hnd : IntKind.i64.wrap (-d) = (r : Int) := by rw [IntKind.wrap_i64]; omega
            clear hr
            go_wp2
            go_roundw
            case rel => exact ⟨q, _, rfl, rfl, HS1.out, HS2.out, hq1, HM.out, B.alloc B.size _⟩
            case measure => simp [intOf]; omega
          · have hdr : d = (r : Int) := by omega
            subst hdr
            clear hr hdn
            go_wp2
            go_roundw
            case rel => exact ⟨q, _, rfl, rfl, HS1.out, HS2.out, hq1, HM.out, B.alloc B.size _⟩
            case measure => simp [intOf]; omega
end Go.Proofs.YtpaoiiiceekkkaaDoor
end
section
namespace Go.Proofs.YtpaoiiiceekkkaaDoor
open Go.Shelf
set_option maxRecDepth 100000
def sh_lays156_ren : Go.Shelf.Ren := ⟨fun | 156 => 40 | 165 => 114 | 166 => 115 | 169 => 116 | 240 => 172 | 241 => 173 | 276 => 198 | 277 => 199 | n => n, fun | 31 => 53 | 9 => 9 | 3 => 3 | 4 => 4 | 0 => 0 | 20 => 20 | 72 => 92 | 76 => 96 | 70 => 90 | 37 => 86 | 75 => 95 | 127 => 133 | 164 => 145 | 5 => 5 | 80 => 68 | n => n, fun | n => n⟩
theorem sh_lays156 : Go.Proofs.Lays.n156 Tryd.prog sh_lays156_ren := {
  mixed := by kernel_rfl
  f156 := Tryd.func40.trans (congrArg some (by kernel_rfl))
  f165 := Tryd.func114.trans (congrArg some (by kernel_rfl))
  f166 := Tryd.func115.trans (congrArg some (by kernel_rfl))
  f169 := Tryd.func116.trans (congrArg some (by kernel_rfl))
  f240 := Tryd.func172.trans (congrArg some (by kernel_rfl))
  f241 := Tryd.func173.trans (congrArg some (by kernel_rfl))
  f276 := Tryd.func198.trans (congrArg some (by kernel_rfl))
  f277 := Tryd.func199.trans (congrArg some (by kernel_rfl))
  t0 := Tryd.underlying0
  a0 := Tryd.isAgg0
  z0 := Tryd.sizeOf0
  v0 := Tryd.zeroValue0
  t3 := Tryd.underlying3
  a3 := Tryd.isAgg3
  z3 := Tryd.sizeOf3
  v3 := Tryd.zeroValue3
  t4 := Tryd.underlying4
  a4 := Tryd.isAgg4
  z4 := Tryd.sizeOf4
  v4 := Tryd.zeroValue4
  t9 := Tryd.underlying9
  a9 := Tryd.isAgg9
  z9 := Tryd.sizeOf9
  v9 := Tryd.zeroValue9
  t20 := Tryd.underlying20
  a20 := Tryd.isAgg20
  z20 := Tryd.sizeOf20
  v20 := Tryd.zeroValue20
  t31 := Tryd.underlying53
  a31 := Tryd.isAgg53
  z31 := Tryd.sizeOf53
  v31 := Tryd.zeroValue53
  t37 := Tryd.underlying86
  a37 := Tryd.isAgg86
  z37 := Tryd.sizeOf86
  v37 := Tryd.zeroValue86
  t70 := Tryd.underlying90
  a70 := Tryd.isAgg90
  z70 := Tryd.sizeOf90
  v70 := Tryd.zeroValue90
  t72 := Tryd.underlying92
  a72 := Tryd.isAgg92
  z72 := Tryd.sizeOf92
  v72 := Tryd.zeroValue92
  t75 := Tryd.underlying95
  a75 := Tryd.isAgg95
  z75 := Tryd.sizeOf95
  v75 := Tryd.zeroValue95
  t76 := Tryd.underlying96
  a76 := Tryd.isAgg96
  z76 := Tryd.sizeOf96
  v76 := Tryd.zeroValue96
  t127 := Tryd.underlying133
  a127 := Tryd.isAgg133
  z127 := Tryd.sizeOf133
  v127 := Tryd.zeroValue133
  t164 := Tryd.underlying145
  a164 := Tryd.isAgg145
  z164 := Tryd.sizeOf145
  v164 := Tryd.zeroValue145 }
theorem sh_Builder_Extra_156 : Builder.Extra Tryd.prog sh_lays156_ren := {
  sizeBuilder := by kernel_rfl
  liesBuilder := by kernel_rfl
  t5 := Tryd.underlying5
  a5 := Tryd.isAgg5
  z5 := Tryd.sizeOf5
  v5 := Tryd.zeroValue5
  infoByte := by kernel_rfl
  cellsByte := by kernel_rfl
  sizeByte := by kernel_rfl
  neB5 := by decide }
open Go.RowKit in
theorem sh_strings_Join (bk o c : Nat) (xs : List ByteArray) (sep : ByteArray) (w : World) (hcells : ∀ (j : Nat) x, xs[j]? = some x → w.cell? ⟨bk, o + j, none⟩ = some (.string x)) (hbk : bk < w.heap.size) (hN : xs.length ≤ 140737488355328) (hcap : xs.length ≤ c) (hlen : (Lib.join (xs.map (·.data.toList)) sep.data.toList).length ≤ 140737488355328) :
    Calls Tryd.prog 40 #[.slice (some ⟨bk, o, none⟩) xs.length c, .string sep] w fun e w' => e = .returned (.string ⟨(Lib.join (xs.map (·.data.toList)) sep.data.toList).toArray⟩) ∧ Below w.heap.size w w' := Any.strings_Join sh_lays156 sh_Builder_Extra_156 bk o c xs sep w hcells hbk hN hcap hlen
open Go.RowKit in
theorem sh_strings_Join_none (a : Option Addr) (c : Nat) (sep : ByteArray) (w : World) :
    Calls Tryd.prog 40 #[.slice a 0 c, .string sep] w fun e w' => e = .returned (.string ⟨#[]⟩) ∧ w' = w := Any.strings_Join_none sh_lays156 sh_Builder_Extra_156 a c sep w
def sh_laysM171_ren : Go.Shelf.Ren := ⟨fun | 171 => 111 | 243 => 171 | 246 => 197 | 283 => 203 | 284 => 204 | 285 => 205 | 286 => 206 | 129 => 208 | 317 => 207 | 318 => 209 | 319 => 210 | 320 => 211 | 337 => 212 | 338 => 213 | n => n, fun | 3 => 3 | 9 => 9 | 2 => 2 | 4 => 4 | 171 => 154 | 0 => 0 | 53 => 151 | 37 => 86 | 5 => 5 | 173 => 156 | 212 => 159 | 51 => 149 | 20 => 20 | 213 => 160 | 46 => 101 | 232 => 161 | 233 => 162 | n => n, fun | 17 => 1 | 18 => 2 | 19 => 3 | n => n⟩
theorem sh_laysM171 : Go.Proofs.LaysM.n171 Tryd.prog sh_laysM171_ren := {
  mixed := by kernel_rfl
  f129 := Tryd.func208.trans (congrArg some (by kernel_rfl))
  f171 := Tryd.func111.trans (congrArg some (by kernel_rfl))
  f243 := Tryd.func171.trans (congrArg some (by kernel_rfl))
  f246 := Tryd.func197.trans (congrArg some (by kernel_rfl))
  f283 := Tryd.func203.trans (congrArg some (by kernel_rfl))
  f284 := Tryd.func204.trans (congrArg some (by kernel_rfl))
  f285 := Tryd.func205.trans (congrArg some (by kernel_rfl))
  f286 := Tryd.func206.trans (congrArg some (by kernel_rfl))
  f317 := Tryd.func207.trans (congrArg some (by kernel_rfl))
  f318 := Tryd.func209.trans (congrArg some (by kernel_rfl))
  f319 := Tryd.func210.trans (congrArg some (by kernel_rfl))
  f320 := Tryd.func211.trans (congrArg some (by kernel_rfl))
  f337 := Tryd.func212.trans (congrArg some (by kernel_rfl))
  f338 := Tryd.func213.trans (congrArg some (by kernel_rfl))
  t0 := Tryd.underlying0
  a0 := Tryd.isAgg0
  z0 := Tryd.sizeOf0
  v0 := Tryd.zeroValue0
  t2 := Tryd.underlying2
  a2 := Tryd.isAgg2
  z2 := Tryd.sizeOf2
  v2 := Tryd.zeroValue2
  t3 := Tryd.underlying3
  a3 := Tryd.isAgg3
  z3 := Tryd.sizeOf3
  v3 := Tryd.zeroValue3
  t4 := Tryd.underlying4
  a4 := Tryd.isAgg4
  z4 := Tryd.sizeOf4
  v4 := Tryd.zeroValue4
  t5 := Tryd.underlying5
  a5 := Tryd.isAgg5
  z5 := Tryd.sizeOf5
  v5 := Tryd.zeroValue5
  t9 := Tryd.underlying9
  a9 := Tryd.isAgg9
  z9 := Tryd.sizeOf9
  v9 := Tryd.zeroValue9
  t20 := Tryd.underlying20
  a20 := Tryd.isAgg20
  z20 := Tryd.sizeOf20
  v20 := Tryd.zeroValue20
  t37 := Tryd.underlying86
  a37 := Tryd.isAgg86
  z37 := Tryd.sizeOf86
  v37 := Tryd.zeroValue86
  t46 := Tryd.underlying101
  a46 := Tryd.isAgg101
  z46 := Tryd.sizeOf101
  v46 := Tryd.zeroValue101
  t51 := Tryd.underlying149
  a51 := Tryd.isAgg149
  z51 := Tryd.sizeOf149
  v51 := Tryd.zeroValue149
  t53 := Tryd.underlying151
  a53 := Tryd.isAgg151
  z53 := Tryd.sizeOf151
  v53 := Tryd.zeroValue151
  t171 := Tryd.underlying154
  a171 := Tryd.isAgg154
  z171 := Tryd.sizeOf154
  v171 := Tryd.zeroValue154
  t173 := Tryd.underlying156
  a173 := Tryd.isAgg156
  z173 := Tryd.sizeOf156
  v173 := Tryd.zeroValue156
  t212 := Tryd.underlying159
  a212 := Tryd.isAgg159
  z212 := Tryd.sizeOf159
  v212 := Tryd.zeroValue159
  t213 := Tryd.underlying160
  a213 := Tryd.isAgg160
  z213 := Tryd.sizeOf160
  t232 := Tryd.underlying161
  a232 := Tryd.isAgg161
  z232 := Tryd.sizeOf161
  v232 := Tryd.zeroValue161
  t233 := Tryd.underlying162
  a233 := Tryd.isAgg162
  z233 := Tryd.sizeOf162
  v233 := Tryd.zeroValue162
  g17 := by kernel_rfl
  g18 := by kernel_rfl
  g19 := by kernel_rfl
  i0 := by kernel_rfl
  i2 := by kernel_rfl
  i3 := by kernel_rfl
  i4 := by kernel_rfl
  i5 := by kernel_rfl
  i9 := by kernel_rfl
  i20 := by kernel_rfl
  i37 := by kernel_rfl
  i46 := by kernel_rfl
  i51 := by kernel_rfl
  i53 := by kernel_rfl
  i171 := by kernel_rfl
  i173 := by kernel_rfl
  i212 := by kernel_rfl
  i232 := by kernel_rfl
  i233 := by kernel_rfl
  m17 := by kernel_rfl
  m18 := by kernel_rfl
  m19 := by kernel_rfl }
open Go.RowKit Go.Sort Go.Lib in
theorem sh_strconv_Itoa (n : Int) (h0 : -9223372036854775808 ≤ n) (h1 : n ≤ 9223372036854775807) (w : World) (htab : Lib.TabIs Tryd.prog w "internal/strconv.uint64pow10" .u64 Lib.pow10Tab) :
    Calls Tryd.prog 111 #[.int .i64 n] w fun e w' => e = .returned (.string ⟨(Lib.itoa n).toArray⟩) ∧ ∃ k os, w' = grow (w.drewN k) os := Any.strconv_Itoa sh_laysM171 n h0 h1 w htab
def sh_lays110_ren : Go.Shelf.Ren := ⟨fun | 110 => 39 | 109 => 113 | n => n, fun | 31 => 53 | 9 => 9 | 4 => 4 | 3 => 3 | 0 => 0 | n => n, fun | n => n⟩
theorem sh_lays110 : Go.Proofs.Lays.n110 Tryd.prog sh_lays110_ren := {
  mixed := by kernel_rfl
  f109 := Tryd.func113.trans (congrArg some (by kernel_rfl))
  f110 := Tryd.func39.trans (congrArg some (by kernel_rfl))
  t0 := Tryd.underlying0
  a0 := Tryd.isAgg0
  z0 := Tryd.sizeOf0
  v0 := Tryd.zeroValue0
  t3 := Tryd.underlying3
  a3 := Tryd.isAgg3
  z3 := Tryd.sizeOf3
  v3 := Tryd.zeroValue3
  t4 := Tryd.underlying4
  a4 := Tryd.isAgg4
  z4 := Tryd.sizeOf4
  v4 := Tryd.zeroValue4
  t9 := Tryd.underlying9
  a9 := Tryd.isAgg9
  z9 := Tryd.sizeOf9
  v9 := Tryd.zeroValue9
  t31 := Tryd.underlying53
  a31 := Tryd.isAgg53
  z31 := Tryd.sizeOf53
  v31 := Tryd.zeroValue53 }
open Go.Lib in
theorem sh_slices_Contains_string (b off n c : Nat) (zs : List ByteArray) (x : ByteArray) (w : World) (hz : n ≤ zs.length) (hbig : n ≤ 9223372036854775807) (hc : ∀ j, j < zs.length → w.cell? ⟨b, off + j, none⟩ = some (.string (zs.getD j ByteArray.empty))) :
    Calls Tryd.prog 39 #[.slice (some ⟨b, off, none⟩) n c, .string x] w fun e w' => e = .returned (.bool (Lib.containsS (zs.take n) x)) ∧ w' = w := Any.slices_Contains_string sh_lays110 b off n c zs x w hz hbig hc
end Go.Proofs.YtpaoiiiceekkkaaDoor
end
