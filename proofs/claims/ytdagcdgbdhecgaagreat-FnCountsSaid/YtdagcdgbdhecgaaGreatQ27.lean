/- The matroids of few elements: both programs; the laws' equality, marks and looks of slices of functions. Laminar families. -/
import Derived.Test.YtdagcdgbdhecgaaGreatQ26
section
namespace Go.Proofs.YtdagcdgbdhecgaaGreat
open Go.RowKit Go.G5

def matF (n : Int) : List (Int × List Int) := (matL n).map fun l => (n, l)
theorem matF_bd (n : Int) : (matF n).length ≤ 65536 ∧ ∀ t ∈ matF n, t.2.length ≤ 8 := by
  unfold matF matL
  cases h : inB n 0 3 with
  | false => simp
  | true =>
    obtain ⟨N, rfl⟩ : ∃ N : Nat, n = N := ⟨n.toNat, by have := inB_true.1 h; omega⟩
    have hN : N ≤ 3 := by have := inB_true.1 h; omega
    have h8 : (2 : Nat) ^ N ≤ 8 := Nat.le_trans (Nat.pow_le_pow_right (by decide) hN) (by decide)
    rw [if_pos rfl, Int.toNat_natCast]
    have hlen : ∀ (m : Nat) (v : List Int), v.length + m ≤ 8 → ∀ x ∈ growL N m v, x.length ≤ 8 := by
      intro m
      induction m with
      | zero =>
        intro v hv x hx
        rw [growL] at hx
        split at hx
        · simp only [List.mem_cons, List.not_mem_nil, or_false] at hx; subst hx; omega
        · simp at hx
      | succ m ih =>
        intro v hv x hx
        rw [growL, List.mem_flatMap] at hx
        obtain ⟨y, _, hy⟩ := hx
        exact ih _ (by rw [List.length_append, List.length_singleton]; omega) x hy
    constructor
    · rw [List.length_map]
      exact Nat.le_trans (growL_len N (2 ^ N) [] (by simp; omega)) (Nat.le_trans (Nat.pow_le_pow_right (by decide) h8) (by decide))
    · intro t ht
      obtain ⟨x, hx, rfl⟩ := List.mem_map.1 ht
      exact hlen _ [] (by simp; omega) x hx
set_option maxHeartbeats 1000000 in
set_option maxRecDepth 100000 in
theorem matSF_any (w : World) (n : Int) :
    Calls Tryz.prog 7 #[.int .i64 n] w fun e w' => ∃ a i c its, e = .returned (.tuple #[.slice a i c, .bool (inB n 0 3)]) ∧ FunsW 32 3 w.heap.size w' (.slice a i c) its ∧ readF its = matF n ∧ Below w.heap.size w w' := by
  have hwi := fun W => l1In_any n 0 3 W
  have o0 := FunsW.lit0 (F := 32) (I := 3) (B := w.heap.size) w (Nat.le_refl _)
  cases h : inB n 0 3 with
  | false =>
    have hm : matF n = [] := by unfold matF matL; rw [h]; rfl
    rw [h] at hwi
    have HM := Lib.hid hm
    have HWI := Lib.hid hwi
    clear hm h hwi
    go_enter Tryz.func7, Tryz.ntmps7
    go_wp2_with (go_at_call 25; refine (HWI.out _).mono ?_; rintro e w' ⟨rfl, rfl⟩)
    go_ret2
    exact ⟨_, _, _, [], rfl, o0, by rw [HM.out]; rfl, bl1 _ _⟩
  | true =>
    obtain ⟨N, rfl⟩ : ∃ N : Nat, n = N := ⟨n.toNat, by have := inB_true.1 h; omega⟩
    have hN : N ≤ 3 := by have := inB_true.1 h; omega
    have hm : matF (N : Int) = (growL N (2 ^ N - 1) [0]).map fun l => ((N : Int), l) := by
      unfold matF matL
      rw [h, if_pos rfl, Int.toNat_natCast]
      have hp : 2 ^ N = (2 ^ N - 1) + 1 := by have := Nat.two_pow_pos N; omega
      rw [hp, growL_first]
      simp
    have hg : ∀ (v : Value) (W : World), OwnW 3 0 W v [0] → _ := fun v W => growSF_any N hN (2 ^ N - 1) [0] v W (by have := Nat.two_pow_pos N; simp; omega)
    rw [h] at hwi
    have HM := Lib.hid hm
    have HWI := Lib.hid hwi
    have HG := Lib.hid hg
    have o1 : OwnI 3 w.heap.size (w.alloc (.cells #[.int .i64 0] 3)) (.slice (some ⟨w.heap.size, 0, none⟩) 1 1) [0] := ⟨World.ownsRow_lit w #[.int .i64 0] 1 (Nat.le_refl _) (by decide) rfl, by simp [InR]⟩
    have HO := Lib.hid (o1.toW.mono (Nat.zero_le _))
    clear hm h hwi hg o0 o1
    go_enter Tryz.func7, Tryz.ntmps7
    go_wp2_with (first
      | (go_at_call 25; refine (HWI.out _).mono ?_; rintro e w' ⟨rfl, rfl⟩)
      | (go_at_call 26; refine (HG.out _ _ HO.out).mono ?_; rintro e7 w7 ⟨p7, q7, c7, its, rfl, o7, r7, b7⟩))
    go_ret2
    exact ⟨_, _, _, its, rfl, o7.mono (by simp), by rw [HM.out]; exact r7, (bl1 _ _).after b7 (by simp)⟩
set_option maxHeartbeats 1000000 in
set_option maxRecDepth 100000 in
theorem matIF_any (w : World) (n : Int) :
    Calls Tryz.prog 6 #[.int .i64 n] w fun e w' => ∃ a i c its, e = .returned (.tuple #[.slice a i c, .bool (inB n 0 3)]) ∧ FunsW 32 3 w.heap.size w' (.slice a i c) its ∧ readF its = matF n ∧ Below w.heap.size w w' ∧ (∀ t ∈ its, ∀ q, t.2.1.ownBlock = some q → w.heap.size ≤ q) ∧ its.Pairwise (fun t u => Apart t.2.1 u.2.1) := by
  have hwi := fun W => within_any n 0 3 W
  have o0 := FunsW.nil 32 3 w.heap.size w
  cases h : inB n 0 3 with
  | false =>
    have hm : matF n = [] := by unfold matF matL; rw [h]; rfl
    rw [h] at hwi
    have HM := Lib.hid hm
    have HWI := Lib.hid hwi
    clear hm h hwi
    go_enter Tryz.func6, Tryz.ntmps6
    go_wp2_with (go_at_call 23; refine (HWI.out _).mono ?_; rintro e w' ⟨rfl, rfl⟩)
    go_ret2
    exact ⟨_, _, _, [], rfl, o0, by rw [HM.out]; rfl, Below.refl _ _, by simp, List.Pairwise.nil⟩
  | true =>
    obtain ⟨N, rfl⟩ : ∃ N : Nat, n = N := ⟨n.toNat, by have := inB_true.1 h; omega⟩
    have hN : N ≤ 3 := by have := inB_true.1 h; omega
    have hm : matF (N : Int) = (growL N (2 ^ N) []).map fun l => ((N : Int), l) := by
      unfold matF matL
      rw [h, if_pos rfl, Int.toNat_natCast]
    have h4 : (4 : Nat) ^ 2 ^ N ≤ 4 ^ 8 := Nat.pow_le_pow_right (by decide) (by have : (2 : Nat) ^ N ≤ 2 ^ 3 := Nat.pow_le_pow_right (by decide) hN; omega)
    have K : Blk (w.alloc (.cells #[.slice none 0 0] 25)) w.heap.size 25 #[.slice none 0 0] := Blk.new _ _ _
    have hg := addRanksF_any N hN (2 ^ N) [] (.slice none 0 0) (w.alloc (.cells #[.slice none 0 0] 25)) (by simp) (OwnW.nil _ _ _) w.heap.size none 0 0 [] K (FunsW.nil _ _ _ _) (by simp; omega)
    rw [h] at hwi
    have HM := Lib.hid hm
    have HWI := Lib.hid hwi
    have HG := Lib.hid hg
    clear hm h hwi hg o0 K h4
    go_enter Tryz.func6, Tryz.ntmps6
    go_wp2_with (first
      | (go_at_call 23; refine (HWI.out _).mono ?_; rintro e w' ⟨rfl, rfl⟩)
      | (go_at_call 24; refine HG.out.mono ?_; rintro e7 w7 ⟨rfl, R7⟩; obtain ⟨a7, k7, c7, its, K7, o7, r7, g7, n7, f7, p7⟩ := R7; rw [List.nil_append] at o7; have G7 := K7.cell 0; have F7 := K7.frozen 0))
    go_ret2
    refine ⟨a7, k7, c7, its, rfl, o7.rebase (fun q hq => ?_), by rw [HM.out]; exact r7, Go.G5.Below.growIn (bl1 _ _) g7 (by simp) (fun b hb => by rcases hb with rfl | hb <;> simp [Value.ownBlock] at *), fun t ht q hq => ?_, p7⟩
    · rcases n7 q hq with h | h
      · simp [Value.ownBlock] at h
      · simp at h; omega
    · have := f7 t ht q hq
      simp at this
      omega

/-! the laws' own functions -/
end Go.Proofs.YtdagcdgbdhecgaaGreat
end
section
namespace Go.Proofs.YtdagcdgbdhecgaaGreat
open Go.RowKit Go.G5

def clashI (a b : Int) : Bool := iand a b != 0 && idif a b != 0 && idif b a != 0
def clashS (a b : Int) : Bool := iand a b != 0 && iand a b != a && iand a b != b
def lamI (l : List Int) : Bool := allTo (fun i => allTo (fun j => decide (j ≤ i) || !clashI (l.getD i 0) (l.getD j 0)) l.length) l.length
def lamB (g : Int) (l : List Int) : Bool := isFamB g l && lamI l
def lamS (l : List Int) : Bool := allTo (fun i => allTo (fun k => !clashS (l.getD i 0) (l.getD k 0)) i) l.length
theorem allTo_of {p : Nat → Bool} {n : Nat} (h : ∀ k, k < n → p k = true) : allTo p n = true := by
  induction n with
  | zero => rfl
  | succ n ih => exact allTo_succ (ih fun k hk => h k (by omega)) (h n (by omega))

set_option maxHeartbeats 400000 in
theorem clash_any (a b : Int) (w : World) (ha : 0 ≤ a ∧ a < 64) (hb : 0 ≤ b ∧ b < 64) :
    Calls Tryz.prog 76 #[.int .i64 a, .int .i64 b] w fun e w' => e = .returned (.bool (clashI a b)) ∧ w = w' := by
  have hA := iand_is ha.1 (show a < 4611686018427387904 by omega) hb.1 (by omega)
  have hB := idif_is ha.1 ha.2 hb.1 hb.2
  have hC := idif_is hb.1 hb.2 ha.1 ha.2
  obtain ⟨x, hx⟩ : ∃ x, x = iand a b := ⟨_, rfl⟩
  obtain ⟨y, hy⟩ : ∃ y, y = idif a b := ⟨_, rfl⟩
  obtain ⟨z, hz⟩ : ∃ z, z = idif b a := ⟨_, rfl⟩
  rw [← hx] at hA
  rw [← hy] at hB
  rw [← hz] at hC
  have hr : clashI a b = ((x != 0) && (y != 0) && (z != 0)) := by unfold clashI; rw [hx, hy, hz]
  have HR := Lib.hid hr
  clear hr hx hy hz
  go_enter Tryz.func76, Tryz.ntmps76
  cases h1 : (x != 0) with
  | false =>
    go_wp2
    go_ret
    exact ⟨ret_bool (by rw [HR.out, h1]; rfl), rfl⟩
  | true =>
    cases h2 : (y != 0) with
    | false =>
      go_wp2
      go_ret
      exact ⟨ret_bool (by rw [HR.out, h1, h2]; rfl), rfl⟩
    | true =>
      go_wp2
      go_ret
      exact ⟨ret_bool (by rw [HR.out, h1, h2]; rfl), rfl⟩

set_option maxHeartbeats 1000000 in
theorem firstClash_any (l : List Int) (v : Value) (w : World) (hv : Ints w v l) (hm : ∀ x ∈ l, 0 ≤ x ∧ x < 64) :
    Calls Tryz.prog 59 #[v] w fun e w' => (∃ x y, e = .returned (.tuple #[.int .i64 x, .int .i64 y, .bool (!lamI l)])) ∧ w = w' := by
  obtain ⟨a, b, off, c, rfl, hlen, hix, hc, hb⟩ := hv.view Tryz.prog 30 3 Tryz.underlying30 intElem
  have HM := Lib.hid hm
  clear hm
  go_enter Tryz.func59, Tryz.ntmps59
  go_wp2
  go_loop [10] (fun i => ∃ k : Nat, k ≤ l.length ∧ i = .int .i64 k ∧ allTo (fun i => allTo (fun j => decide (j ≤ i) || !clashI (l.getD i 0) (l.getD j 0)) l.length) k = true) (fun i => l.length - (intOf i).toNat)
  case atStart => exact ⟨0, Nat.zero_le _, rfl, rfl⟩
  case round =>
    obtain ⟨k, hk, rfl, hall⟩ := hrel
    have H := Lib.hid hall
    clear hall
    by_cases hlt : k < l.length
    · have hlk := HM.out _ (List.getElem_mem hlt)
      go_wp2
      go_loop [7] (fun j => ∃ q : Nat, k + 1 ≤ q ∧ q ≤ l.length ∧ j = .int .i64 q ∧ allTo (fun j => decide (j ≤ k) || !clashI (l.getD k 0) (l.getD j 0)) q = true) (fun j => l.length - (intOf j).toNat)
      case atStart => exact ⟨k + 1, by omega, by omega, by go_num, allTo_of fun j hj => by simp [show j ≤ k by omega]⟩
      case round =>
        obtain ⟨q, hkq, hq, rfl, hin⟩ := hrel
        have HI := Lib.hid hin
        clear hin
        by_cases hql : q < l.length
        · have hlq := HM.out _ (List.getElem_mem hql)
          have hcl := clash_any l[k] l[q] w hlk hlq
          cases hz : clashI l[k] l[q] with
          | true =>
            have hp : (decide (q ≤ k) || !clashI (l.getD k 0) (l.getD q 0)) = false := by rw [getD_at l k hlt, getD_at l q hql, hz]; simp; omega
            have hx : lamI l = false := allTo_false (p := fun i => allTo (fun j => decide (j ≤ i) || !clashI (l.getD i 0) (l.getD j 0)) l.length) hlt (allTo_false (p := fun j => decide (j ≤ k) || !clashI (l.getD k 0) (l.getD j 0)) hql hp)
            have HX := Lib.hid hx
            clear hp hx
            rw [hz] at hcl
            go_wp2_with (go_at_call 76; refine hcl.mono ?_; rintro e w' ⟨rfl, rfl⟩)
            refine bodyPost_ret (v := .tuple #[.int .i64 k, .int .i64 q, .bool true]) (by simp [results, Tryz.results59, go_sem]) rfl ⟨⟨_, _, by rw [HX.out]; rfl⟩, rfl⟩
          | false =>
            have hp : (decide (q ≤ k) || !clashI (l.getD k 0) (l.getD q 0)) = true := by rw [getD_at l k hlt, getD_at l q hql, hz]; simp
            have HP := Lib.hid hp
            clear hp
            rw [hz] at hcl
            go_wp2_with (go_at_call 76; refine hcl.mono ?_; rintro e w' ⟨rfl, rfl⟩)
            go_round
            case rel => exact ⟨q + 1, by omega, by omega, by go_num, allTo_succ HI.out HP.out⟩
            case measure => simp [intOf]; omega
        · go_wp2
          go_round
          case rel => exact ⟨k + 1, by omega, by go_num, allTo_succ H.out (by rw [show l.length = q by omega]; exact HI.out)⟩
          case measure => simp [intOf]; omega
    · have hx : lamI l = true := by unfold lamI; rw [← show k = l.length by omega]; exact (show k = l.length by omega) ▸ H.out
      have HX := Lib.hid hx
      clear hx
      go_wp2
      refine bodyPost_ret (v := .tuple #[.int .i64 0, .int .i64 0, .bool false]) (by simp [results, Tryz.results59, go_sem]) rfl ⟨⟨_, _, by rw [HX.out]; rfl⟩, rfl⟩

set_option maxHeartbeats 1000000 in
theorem isLaminar_any (g : Int) (l : List Int) (v : Value) (w : World) (hv : Ints w v l) :
    Calls Tryz.prog 32 #[.agg #[.int .i64 g, v]] w fun e w' => e = .returned (.bool (lamB g l)) ∧ Below w.heap.size w w' := by
  obtain ⟨a, c, rfl⟩ := hv.shape
  have X0 := Box2.new w g (.slice a l.length c) 49
  go_enter Tryz.func32, Tryz.ntmps32
  go_wp2_with fail
  refine (isFamI_any g l _ _ (hv.alloc _)).mono ?_
  rintro e w1 ⟨rfl, hb1⟩
  obtain ⟨d0, d1, B1, z1⟩ := X0.after hb1
  have hv1 := hv.below B1 (Nat.le_refl _)
  clear hb1 X0
  cases hf : isFamB g l with
  | false =>
    have hx : lamB g l = false := by unfold lamB; rw [hf]; rfl
    have HX := Lib.hid hx
    clear hx
    go_wp2
    go_ret
    exact ⟨by rw [HX.out]; rfl, B1⟩
  | true =>
    have hx : lamB g l = lamI l := by unfold lamB; rw [hf]; rfl
    have hcl := firstClash_any l _ w1 hv1 (fam_mem hf)
    have HX := Lib.hid hx
    clear hx
    go_wp2_with (go_at_call 59; refine hcl.mono ?_; rintro e w' ⟨⟨x, y, rfl⟩, rfl⟩)
    go_ret
    exact ⟨ret_bool (by rw [HX.out]), B1⟩

set_option maxHeartbeats 1000000 in
theorem l16Laminar_any (l : List Int) (v : Value) (w : World) (hv : Ints w v l) (hm : ∀ x ∈ l, 0 ≤ x ∧ x < 64) :
    Calls Tryz.prog 37 #[v] w fun e w' => e = .returned (.bool (lamS l)) ∧ Below w.heap.size w w' := by
  obtain ⟨a, b, off, c, rfl, hlen, hix, hc, hb⟩ := hv.view Tryz.prog 30 3 Tryz.underlying30 intElem
  have HM := Lib.hid hm
  clear hm
  go_enter Tryz.func37, Tryz.ntmps37
  go_wp2
  go_loopw [3] (fun i wr => ∃ k m : Nat, k ≤ l.length ∧ i = .int .i64 k ∧ wr = w.drewN m ∧ allTo (fun i => allTo (fun k => !clashS (l.getD i 0) (l.getD k 0)) i) k = true) (fun i _ => l.length - (intOf i).toNat)
  case atStart => exact ⟨0, 0, Nat.zero_le _, rfl, rfl, rfl⟩
  case round =>
    obtain ⟨k, m, hk, rfl, rfl, hall⟩ := hrel
    have H := Lib.hid hall
    clear hall
    by_cases hlt : k < l.length
    · have hlk := HM.out _ (List.getElem_mem hlt)
      go_wp2
      go_loopw [4] (fun j wr => ∃ q n : Nat, q ≤ k ∧ j = .int .i64 q ∧ wr = w.drewN n ∧ allTo (fun q => !clashS (l.getD k 0) (l.getD q 0)) q = true) (fun j _ => k - (intOf j).toNat)
      case atStart => exact ⟨0, m, by omega, rfl, rfl, rfl⟩
      case round =>
        obtain ⟨q, n, hq, rfl, rfl, hin⟩ := hrel
        have HI := Lib.hid hin
        clear hin
        by_cases hle : q < k
        · have hql : q < l.length := by omega
          have hlq := HM.out _ (List.getElem_mem hql)
          have hA := iand_is hlk.1 (show l[k] < 4611686018427387904 by omega) hlq.1 (show l[q] < 4611686018427387904 by omega)
          obtain ⟨x, hx⟩ : ∃ x, x = iand l[k] l[q] := ⟨_, rfl⟩
          rw [← hx] at hA
          have hr : clashS (l.getD k 0) (l.getD q 0) = ((x != 0) && (x != l[k]) && (x != l[q])) := by rw [getD_at l k hlt, getD_at l q hql]; unfold clashS; rw [hx]
          have HR := Lib.hid hr
          clear hr hx
          cases h1 : (x != 0) with
          | false =>
            have hp : (!clashS (l.getD k 0) (l.getD q 0)) = true := by rw [HR.out, h1]; rfl
            have HP := Lib.hid hp
            clear hp
            go_wp2
            go_quiet (fail)
            go_wp2
            go_roundw
            case rel => exact ⟨q + 1, n + nq, by omega, by go_num, by simp, allTo_succ HI.out HP.out⟩
            case measure => simp [intOf]; omega
          | true =>
            cases h2 : (x != l[k]) with
            | false =>
              have hp : (!clashS (l.getD k 0) (l.getD q 0)) = true := by rw [HR.out, h1, h2]; rfl
              have HP := Lib.hid hp
              clear hp
              go_wp2
              go_quiet (fail)
              go_wp2
              go_roundw
              case rel => exact ⟨q + 1, n + nq, by omega, by go_num, by simp, allTo_succ HI.out HP.out⟩
              case measure => simp [intOf]; omega
            | true =>
              cases h3 : (x != l[q]) with
              | false =>
                have hp : (!clashS (l.getD k 0) (l.getD q 0)) = true := by rw [HR.out, h1, h2, h3]; rfl
                have HP := Lib.hid hp
                clear hp
                go_wp2
                go_quiet (fail)
                go_wp2
                go_roundw
                case rel => exact ⟨q + 1, n + nq, by omega, by go_num, by simp, allTo_succ HI.out HP.out⟩
                case measure => simp [intOf]; omega
              | true =>
                have hp : (!clashS (l.getD k 0) (l.getD q 0)) = false := by rw [HR.out, h1, h2, h3]; rfl
                have HP := Lib.hid hp
                clear hp
                go_wp2
                go_quiet (fail)
                go_wp2
                go_ret
                exact ⟨ret_bool (allTo_false (p := fun i => allTo (fun k => !clashS (l.getD i 0) (l.getD k 0)) i) hlt (allTo_false (p := fun q => !clashS (l.getD k 0) (l.getD q 0)) hle HP.out)).symm, (Below.refl _ _).drewN' _⟩
        · go_wp2
          go_roundw
          case rel => exact ⟨k + 1, n, by omega, by go_num, rfl, allTo_succ H.out (by rw [show k = q by omega]; exact (show k = q by omega) ▸ HI.out)⟩
          case measure => simp [intOf]; omega
    · go_wp2
      go_ret
      exact ⟨ret_bool (by unfold lamS; rw [show l.length = k by omega, H.out]), (Below.refl _ _).drewN' _⟩
end Go.Proofs.YtdagcdgbdhecgaaGreat
end
