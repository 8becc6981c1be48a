/- The matroids of few elements: both programs; the laws' equality, marks and looks of slices of functions. -/
import Derived.Test.YtmfenalnmpndmaaGrowFI
import Derived.Test.YtmfenalnmpndmaaEq
namespace Go.Proofs.Ytmfenalnmpndmaa
open Go.RowKit Go.G5

def matF (n : Int) : List (Int × List Int) := (matL n).map fun l => (n, l)
theorem matF_bd (n : Int) : (matF n).length ≤ 65536 ∧ ∀ t ∈ matF n, t.2.length ≤ 8 := by
  unfold matF matL
  cases h : inB n 0 3 with
  | false => simp
  | true =>
    obtain ⟨N, rfl⟩ : ∃ N : Nat, n = N := ⟨n.toNat, by have := inB_true.1 h; omega⟩
    have hN : N ≤ 3 := by have := inB_true.1 h; omega
    have h8 : (2 : Nat) ^ N ≤ 8 := Nat.le_trans (Nat.pow_le_pow_right (by decide) hN) (by decide)
    rw [if_pos rfl, Int.toNat_natCast]
    have hlen : ∀ (m : Nat) (v : List Int), v.length + m ≤ 8 → ∀ x ∈ growL N m v, x.length ≤ 8 := by
      intro m
      induction m with
      | zero =>
        intro v hv x hx
        rw [growL] at hx
        split at hx
        · simp only [List.mem_cons, List.not_mem_nil, or_false] at hx; subst hx; omega
        · simp at hx
      | succ m ih =>
        intro v hv x hx
        rw [growL, List.mem_flatMap] at hx
        obtain ⟨y, _, hy⟩ := hx
        exact ih _ (by rw [List.length_append, List.length_singleton]; omega) x hy
    constructor
    · rw [List.length_map]
      exact Nat.le_trans (growL_len N (2 ^ N) [] (by simp; omega)) (Nat.le_trans (Nat.pow_le_pow_right (by decide) h8) (by decide))
    · intro t ht
      obtain ⟨x, hx, rfl⟩ := List.mem_map.1 ht
      exact hlen _ [] (by simp; omega) x hx
set_option maxHeartbeats 1000000 in
set_option maxRecDepth 100000 in
theorem matSF_any (w : World) (n : Int) :
    Calls Try.prog 35 #[.int .i64 n] w fun e w' => ∃ a i c its, e = .returned (.tuple #[.slice a i c, .bool (inB n 0 3)]) ∧ FunsW 26 3 w.heap.size w' (.slice a i c) its ∧ readF its = matF n ∧ Below w.heap.size w w' := by
  have hwi := fun W => l1In_any n 0 3 W
  have o0 := FunsW.lit0 (F := 26) (I := 3) (B := w.heap.size) w (Nat.le_refl _)
  cases h : inB n 0 3 with
  | false =>
    have hm : matF n = [] := by unfold matF matL; rw [h]; rfl
    rw [h] at hwi
    have HM := Lib.hid hm
    have HWI := Lib.hid hwi
    clear hm h hwi
    go_enter Try.func35, Try.ntmps35
    go_wp2_with (go_at_call 60; refine (HWI.out _).mono ?_; rintro e w' ⟨rfl, rfl⟩)
    go_ret2
    exact ⟨_, _, _, [], rfl, o0, by rw [HM.out]; rfl, bl1 _ _⟩
  | true =>
    obtain ⟨N, rfl⟩ : ∃ N : Nat, n = N := ⟨n.toNat, by have := inB_true.1 h; omega⟩
    have hN : N ≤ 3 := by have := inB_true.1 h; omega
    have hm : matF (N : Int) = (growL N (2 ^ N - 1) [0]).map fun l => ((N : Int), l) := by
      unfold matF matL
      rw [h, if_pos rfl, Int.toNat_natCast]
      have hp : 2 ^ N = (2 ^ N - 1) + 1 := by have := Nat.two_pow_pos N; omega
      rw [hp, growL_first]
      simp
    have hg : ∀ (v : Value) (W : World), OwnW 3 0 W v [0] → _ := fun v W => growSF_any N hN (2 ^ N - 1) [0] v W (by have := Nat.two_pow_pos N; simp; omega)
    rw [h] at hwi
    have HM := Lib.hid hm
    have HWI := Lib.hid hwi
    have HG := Lib.hid hg
    have o1 : OwnI 3 w.heap.size (w.alloc (.cells #[.int .i64 0] 3)) (.slice (some ⟨w.heap.size, 0, none⟩) 1 1) [0] := ⟨World.ownsRow_lit w #[.int .i64 0] 1 (Nat.le_refl _) (by decide) rfl, by simp [InR]⟩
    have HO := Lib.hid (o1.toW.mono (Nat.zero_le _))
    clear hm h hwi hg o0 o1
    go_enter Try.func35, Try.ntmps35
    go_wp2_with (first
      | (go_at_call 60; refine (HWI.out _).mono ?_; rintro e w' ⟨rfl, rfl⟩)
      | (go_at_call 89; refine (HG.out _ _ HO.out).mono ?_; rintro e7 w7 ⟨p7, q7, c7, its, rfl, o7, r7, b7⟩))
    go_ret2
    exact ⟨_, _, _, its, rfl, o7.mono (by simp), by rw [HM.out]; exact r7, (bl1 _ _).after b7 (by simp)⟩
set_option maxHeartbeats 1000000 in
set_option maxRecDepth 100000 in
theorem matIF_any (w : World) (n : Int) :
    Calls Try.prog 36 #[.int .i64 n] w fun e w' => ∃ a i c its, e = .returned (.tuple #[.slice a i c, .bool (inB n 0 3)]) ∧ FunsW 26 3 w.heap.size w' (.slice a i c) its ∧ readF its = matF n ∧ Below w.heap.size w w' ∧ (∀ t ∈ its, ∀ q, t.2.1.ownBlock = some q → w.heap.size ≤ q) ∧ its.Pairwise (fun t u => Apart t.2.1 u.2.1) := by
  have hwi := fun W => within_any n 0 3 W
  have o0 := FunsW.nil 26 3 w.heap.size w
  cases h : inB n 0 3 with
  | false =>
    have hm : matF n = [] := by unfold matF matL; rw [h]; rfl
    rw [h] at hwi
    have HM := Lib.hid hm
    have HWI := Lib.hid hwi
    clear hm h hwi
    go_enter Try.func36, Try.ntmps36
    go_wp2_with (go_at_call 61; refine (HWI.out _).mono ?_; rintro e w' ⟨rfl, rfl⟩)
    go_ret2
    exact ⟨_, _, _, [], rfl, o0, by rw [HM.out]; rfl, Below.refl _ _, by simp, List.Pairwise.nil⟩
  | true =>
    obtain ⟨N, rfl⟩ : ∃ N : Nat, n = N := ⟨n.toNat, by have := inB_true.1 h; omega⟩
    have hN : N ≤ 3 := by have := inB_true.1 h; omega
    have hm : matF (N : Int) = (growL N (2 ^ N) []).map fun l => ((N : Int), l) := by
      unfold matF matL
      rw [h, if_pos rfl, Int.toNat_natCast]
    have h4 : (4 : Nat) ^ 2 ^ N ≤ 4 ^ 8 := Nat.pow_le_pow_right (by decide) (by have : (2 : Nat) ^ N ≤ 2 ^ 3 := Nat.pow_le_pow_right (by decide) hN; omega)
    have K : Blk (w.alloc (.cells #[.slice none 0 0] 46)) w.heap.size 46 #[.slice none 0 0] := Blk.new _ _ _
    have hg := addRanksF_any N hN (2 ^ N) [] (.slice none 0 0) (w.alloc (.cells #[.slice none 0 0] 46)) (by simp) (OwnW.nil _ _ _) w.heap.size none 0 0 [] K (FunsW.nil _ _ _ _) (by simp; omega)
    rw [h] at hwi
    have HM := Lib.hid hm
    have HWI := Lib.hid hwi
    have HG := Lib.hid hg
    clear hm h hwi hg o0 K h4
    go_enter Try.func36, Try.ntmps36
    go_wp2_with (first
      | (go_at_call 61; refine (HWI.out _).mono ?_; rintro e w' ⟨rfl, rfl⟩)
      | (go_at_call 90; refine HG.out.mono ?_; rintro e7 w7 ⟨rfl, R7⟩; obtain ⟨a7, k7, c7, its, K7, o7, r7, g7, n7, f7, p7⟩ := R7; rw [List.nil_append] at o7; have G7 := K7.cell 0; have F7 := K7.frozen 0))
    go_ret2
    refine ⟨a7, k7, c7, its, rfl, o7.rebase (fun q hq => ?_), by rw [HM.out]; exact r7, Go.G5.Below.growIn (bl1 _ _) g7 (by simp) (fun b hb => by rcases hb with rfl | hb <;> simp [Value.ownBlock] at *), fun t ht q hq => ?_, p7⟩
    · rcases n7 q hq with h | h
      · simp [Value.ownBlock] at h
      · simp at h; omega
    · have := f7 t ht q hq
      simp at this
      omega

/-! the laws' own functions -/
set_option maxHeartbeats 2000000 in
set_option maxRecDepth 100000 in
theorem eqFunS_any (w : World) (B B' : Nat) (v v' : Value) (its jts : List FIt) (hv : FunsW 26 3 B w v its) (hv' : FunsW 26 3 B' w v' jts) (he : readF its = readF jts) (hlen : its.length ≤ 1000000) :
    Calls Try.prog 37 #[v, v'] w fun e w' => e = .returned (.bool true) ∧ Below w.heap.size w w' := by
  obtain ⟨a, b, c, rfl, hix, hc, ha, hfz⟩ := hv.view Try.prog 46 Try.underlying46 funElem
  obtain ⟨a', b', c', rfl, hix', hc', ha', hfz'⟩ := hv'.view Try.prog 46 Try.underlying46 funElem
  have hll : its.length = jts.length := by rw [← readF_len, he, readF_len]
  have ht : ((its.length : Int) != (jts.length : Int)) = false := by simp [hll]
  have HLL := Lib.hid hll
  have HE := Lib.hid he
  have HC := Lib.hid hc
  have HC' := Lib.hid hc'
  have HIX := Lib.hid hix
  have HIX' := Lib.hid hix'
  clear hll he hc hc' ha ha' hfz hfz' hix hix'
  go_enter Try.func37, Try.ntmps37
  go_wp2_with fail
  go_loopw [5] (fun i wr => ∃ k : Nat, k ≤ its.length ∧ i = .int .i64 k ∧ Below w.heap.size w wr) (fun i _ => its.length - (intOf i).toNat)
  case atStart => exact ⟨0, Nat.zero_le _, rfl, Below.refl _ _⟩
  case round =>
    obtain ⟨k, hk, rfl, Bw⟩ := hrel
    by_cases hlt : k < its.length
    · have hlt' : k < jts.length := by rw [← HLL.out]; exact hlt
      have c1 := HC.out k hlt
      have c2 := HC'.out k hlt'
      have i1 := fun W => HIX.out W k hlt
      have i2 := fun W => HIX'.out W k hlt'
      have e1 := readF_at its k hlt
      have e2 := readF_at jts k hlt'
      rw [HE.out, e2] at e1
      have e1 := Option.some.inj e1
      have o1 := (hv.els _ (List.getElem_mem hlt)).2
      have o2 := (hv'.els _ (List.getElem_mem hlt')).2
      obtain ⟨n1, hn1⟩ : ∃ q, q = its[k].1 := ⟨_, rfl⟩
      obtain ⟨r1, hr1⟩ : ∃ q, q = its[k].2.1 := ⟨_, rfl⟩
      obtain ⟨l1, hl1⟩ : ∃ q, q = its[k].2.2 := ⟨_, rfl⟩
      obtain ⟨n2, hn2⟩ : ∃ q, q = jts[k].1 := ⟨_, rfl⟩
      obtain ⟨r2, hr2⟩ : ∃ q, q = jts[k].2.1 := ⟨_, rfl⟩
      obtain ⟨l2, hl2⟩ : ∃ q, q = jts[k].2.2 := ⟨_, rfl⟩
      rw [← hn1, ← hl1, ← hn2, ← hl2] at e1
      rw [← hn1, ← hr1] at c1
      rw [← hn2, ← hr2] at c2
      rw [← hr1, ← hl1] at o1
      rw [← hr2, ← hl2] at o2
      injection e1 with ea eb
      subst ea eb
      obtain ⟨q, hq⟩ : ∃ q, q = 2 * k := ⟨_, rfl⟩
      rw [← hq] at c1 c2
      simp only [← hq] at i1 i2
      have s1 := o1.ints.keep Bw
      have s2 := o2.ints.keep Bw
      have QE := fun y : Ext wr => eqFunction_any n2 n2 _ _ l2 l2 y.w (y.ints s1) (y.ints s2)
      simp only [decide_true, Bool.and_self] at QE
      have QE := Lib.hid QE
      have g1 : ∀ y : Ext wr, y.w.cell? ⟨b, q, none⟩ = some (.int .i64 n2) := fun y => y.cell (keep Bw c1.1)
      have g2 : ∀ y : Ext wr, y.w.cell? ⟨b, q + 1, none⟩ = some r1 := fun y => y.cell (keep Bw c1.2)
      have g3 : ∀ y : Ext wr, y.w.cell? ⟨b', q, none⟩ = some (.int .i64 n2) := fun y => y.cell (keep Bw c2.1)
      have g4 : ∀ y : Ext wr, y.w.cell? ⟨b', q + 1, none⟩ = some r2 := fun y => y.cell (keep Bw c2.2)
      clear hn1 hr1 hl1 hn2 hr2 hl2 e2 hq c1 c2 s1 s2 o1 o2
      go_wp2_with fail
      refine wp_region_ext _ (by kernel_rfl) (by kernel_rfl) ?_
      repeat (first | go_big_quiet_skip | (go_big_quiet_want; go_big_quiet_op; first | go_big_quiet_on | (apply Exists.intro; refine ⟨fun _ => ?_, ?_⟩; (go_at_call 91; with_reducible exact ext_call (QE.out _)); go_big_quiet_on)))
      refine wpQuiet_nil ?_
      rintro w9 ⟨⟨w9, hb9⟩, rfl⟩
      try dsimp only
      go_wp2
      go_roundw
      case rel => exact ⟨k + 1, by omega, by go_num, Bw.after hb9 Bw.size⟩
      case measure => simp [intOf]; omega
    · go_wp2
      go_ret
      exact ⟨rfl, Bw⟩
end Go.Proofs.Ytmfenalnmpndmaa
