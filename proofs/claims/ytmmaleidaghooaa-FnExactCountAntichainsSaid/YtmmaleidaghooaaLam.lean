/- Laminar families. -/
import Derived.Test.YtmmaleidaghooaaInter
namespace Go.Proofs.Ytmmaleidaghooaa
open Go.RowKit Go.G5

def clashI (a b : Int) : Bool := iand a b != 0 && idif a b != 0 && idif b a != 0
def clashS (a b : Int) : Bool := iand a b != 0 && iand a b != a && iand a b != b
def lamI (l : List Int) : Bool := allTo (fun i => allTo (fun j => decide (j ≤ i) || !clashI (l.getD i 0) (l.getD j 0)) l.length) l.length
def lamB (g : Int) (l : List Int) : Bool := isFamB g l && lamI l
def lamS (l : List Int) : Bool := allTo (fun i => allTo (fun k => !clashS (l.getD i 0) (l.getD k 0)) i) l.length
theorem allTo_of {p : Nat → Bool} {n : Nat} (h : ∀ k, k < n → p k = true) : allTo p n = true := by
  induction n with
  | zero => rfl
  | succ n ih => exact allTo_succ (ih fun k hk => h k (by omega)) (h n (by omega))

set_option maxHeartbeats 400000 in
theorem clash_any (a b : Int) (w : World) (ha : 0 ≤ a ∧ a < 64) (hb : 0 ≤ b ∧ b < 64) :
    Calls Try.prog 110 #[.int .i64 a, .int .i64 b] w fun e w' => e = .returned (.bool (clashI a b)) ∧ w = w' := by
  have hA := iand_is ha.1 (show a < 4611686018427387904 by omega) hb.1 (by omega)
  have hB := idif_is ha.1 ha.2 hb.1 hb.2
  have hC := idif_is hb.1 hb.2 ha.1 ha.2
  obtain ⟨x, hx⟩ : ∃ x, x = iand a b := ⟨_, rfl⟩
  obtain ⟨y, hy⟩ : ∃ y, y = idif a b := ⟨_, rfl⟩
  obtain ⟨z, hz⟩ : ∃ z, z = idif b a := ⟨_, rfl⟩
  rw [← hx] at hA
  rw [← hy] at hB
  rw [← hz] at hC
  have hr : clashI a b = ((x != 0) && (y != 0) && (z != 0)) := by unfold clashI; rw [hx, hy, hz]
  have HR := Lib.hid hr
  clear hr hx hy hz
  go_enter Try.func110, Try.ntmps110
  cases h1 : (x != 0) with
  | false =>
    go_wp2
    go_ret
    exact ⟨ret_bool (by rw [HR.out, h1]; rfl), rfl⟩
  | true =>
    cases h2 : (y != 0) with
    | false =>
      go_wp2
      go_ret
      exact ⟨ret_bool (by rw [HR.out, h1, h2]; rfl), rfl⟩
    | true =>
      go_wp2
      go_ret
      exact ⟨ret_bool (by rw [HR.out, h1, h2]; rfl), rfl⟩

set_option maxHeartbeats 1000000 in
theorem firstClash_any (l : List Int) (v : Value) (w : World) (hv : Ints w v l) (hm : ∀ x ∈ l, 0 ≤ x ∧ x < 64) :
    Calls Try.prog 102 #[v] w fun e w' => (∃ x y, e = .returned (.tuple #[.int .i64 x, .int .i64 y, .bool (!lamI l)])) ∧ w = w' := by
  obtain ⟨a, b, off, c, rfl, hlen, hix, hc, hb⟩ := hv.view Try.prog 24 3 Try.underlying24 intElem
  have HM := Lib.hid hm
  clear hm
  go_enter Try.func102, Try.ntmps102
  go_wp2
  go_loop [10] (fun i => ∃ k : Nat, k ≤ l.length ∧ i = .int .i64 k ∧ allTo (fun i => allTo (fun j => decide (j ≤ i) || !clashI (l.getD i 0) (l.getD j 0)) l.length) k = true) (fun i => l.length - (intOf i).toNat)
  case atStart => exact ⟨0, Nat.zero_le _, rfl, rfl⟩
  case round =>
    obtain ⟨k, hk, rfl, hall⟩ := hrel
    have H := Lib.hid hall
    clear hall
    by_cases hlt : k < l.length
    · have hlk := HM.out _ (List.getElem_mem hlt)
      go_wp2
      go_loop [7] (fun j => ∃ q : Nat, k + 1 ≤ q ∧ q ≤ l.length ∧ j = .int .i64 q ∧ allTo (fun j => decide (j ≤ k) || !clashI (l.getD k 0) (l.getD j 0)) q = true) (fun j => l.length - (intOf j).toNat)
      case atStart => exact ⟨k + 1, by omega, by omega, by go_num, allTo_of fun j hj => by simp [show j ≤ k by omega]⟩
      case round =>
        obtain ⟨q, hkq, hq, rfl, hin⟩ := hrel
        have HI := Lib.hid hin
        clear hin
        by_cases hql : q < l.length
        · have hlq := HM.out _ (List.getElem_mem hql)
          have hcl := clash_any l[k] l[q] w hlk hlq
          cases hz : clashI l[k] l[q] with
          | true =>
            have hp : (decide (q ≤ k) || !clashI (l.getD k 0) (l.getD q 0)) = false := by rw [getD_at l k hlt, getD_at l q hql, hz]; simp; omega
            have hx : lamI l = false := allTo_false (p := fun i => allTo (fun j => decide (j ≤ i) || !clashI (l.getD i 0) (l.getD j 0)) l.length) hlt (allTo_false (p := fun j => decide (j ≤ k) || !clashI (l.getD k 0) (l.getD j 0)) hql hp)
            have HX := Lib.hid hx
            clear hp hx
            rw [hz] at hcl
            go_wp2_with (go_at_call 110; refine hcl.mono ?_; rintro e w' ⟨rfl, rfl⟩)
            refine bodyPost_ret (v := .tuple #[.int .i64 k, .int .i64 q, .bool true]) (by simp [results, Try.results102, go_sem]) rfl ⟨⟨_, _, by rw [HX.out]; rfl⟩, rfl⟩
          | false =>
            have hp : (decide (q ≤ k) || !clashI (l.getD k 0) (l.getD q 0)) = true := by rw [getD_at l k hlt, getD_at l q hql, hz]; simp
            have HP := Lib.hid hp
            clear hp
            rw [hz] at hcl
            go_wp2_with (go_at_call 110; refine hcl.mono ?_; rintro e w' ⟨rfl, rfl⟩)
            go_round
            case rel => exact ⟨q + 1, by omega, by omega, by go_num, allTo_succ HI.out HP.out⟩
            case measure => simp [intOf]; omega
        · go_wp2
          go_round
          case rel => exact ⟨k + 1, by omega, by go_num, allTo_succ H.out (by rw [show l.length = q by omega]; exact HI.out)⟩
          case measure => simp [intOf]; omega
    · have hx : lamI l = true := by unfold lamI; rw [← show k = l.length by omega]; exact (show k = l.length by omega) ▸ H.out
      have HX := Lib.hid hx
      clear hx
      go_wp2
      refine bodyPost_ret (v := .tuple #[.int .i64 0, .int .i64 0, .bool false]) (by simp [results, Try.results102, go_sem]) rfl ⟨⟨_, _, by rw [HX.out]; rfl⟩, rfl⟩

set_option maxHeartbeats 1000000 in
theorem isLaminar_any (g : Int) (l : List Int) (v : Value) (w : World) (hv : Ints w v l) :
    Calls Try.prog 61 #[.agg #[.int .i64 g, v]] w fun e w' => e = .returned (.bool (lamB g l)) ∧ Below w.heap.size w w' := by
  obtain ⟨a, c, rfl⟩ := hv.shape
  have X0 := Box2.new w g (.slice a l.length c) 44
  go_enter Try.func61, Try.ntmps61
  go_wp2_with fail
  refine (isFamI_any g l _ _ (hv.alloc _)).mono ?_
  rintro e w1 ⟨rfl, hb1⟩
  obtain ⟨d0, d1, B1, z1⟩ := X0.after hb1
  have hv1 := hv.below B1 (Nat.le_refl _)
  clear hb1 X0
  cases hf : isFamB g l with
  | false =>
    have hx : lamB g l = false := by unfold lamB; rw [hf]; rfl
    have HX := Lib.hid hx
    clear hx
    go_wp2
    go_ret
    exact ⟨by rw [HX.out]; rfl, B1⟩
  | true =>
    have hx : lamB g l = lamI l := by unfold lamB; rw [hf]; rfl
    have hcl := firstClash_any l _ w1 hv1 (fam_mem hf)
    have HX := Lib.hid hx
    clear hx
    go_wp2_with (go_at_call 102; refine hcl.mono ?_; rintro e w' ⟨⟨x, y, rfl⟩, rfl⟩)
    go_ret
    exact ⟨ret_bool (by rw [HX.out]), B1⟩

set_option maxHeartbeats 1000000 in
theorem l16Laminar_any (l : List Int) (v : Value) (w : World) (hv : Ints w v l) (hm : ∀ x ∈ l, 0 ≤ x ∧ x < 64) :
    Calls Try.prog 60 #[v] w fun e w' => e = .returned (.bool (lamS l)) ∧ Below w.heap.size w w' := by
  obtain ⟨a, b, off, c, rfl, hlen, hix, hc, hb⟩ := hv.view Try.prog 24 3 Try.underlying24 intElem
  have HM := Lib.hid hm
  clear hm
  go_enter Try.func60, Try.ntmps60
  go_wp2
  go_loopw [3] (fun i wr => ∃ k m : Nat, k ≤ l.length ∧ i = .int .i64 k ∧ wr = w.drewN m ∧ allTo (fun i => allTo (fun k => !clashS (l.getD i 0) (l.getD k 0)) i) k = true) (fun i _ => l.length - (intOf i).toNat)
  case atStart => exact ⟨0, 0, Nat.zero_le _, rfl, rfl, rfl⟩
  case round =>
    obtain ⟨k, m, hk, rfl, rfl, hall⟩ := hrel
    have H := Lib.hid hall
    clear hall
    by_cases hlt : k < l.length
    · have hlk := HM.out _ (List.getElem_mem hlt)
      go_wp2
      go_loopw [4] (fun j wr => ∃ q n : Nat, q ≤ k ∧ j = .int .i64 q ∧ wr = w.drewN n ∧ allTo (fun q => !clashS (l.getD k 0) (l.getD q 0)) q = true) (fun j _ => k - (intOf j).toNat)
      case atStart => exact ⟨0, m, by omega, rfl, rfl, rfl⟩
      case round =>
        obtain ⟨q, n, hq, rfl, rfl, hin⟩ := hrel
        have HI := Lib.hid hin
        clear hin
        by_cases hle : q < k
        · have hql : q < l.length := by omega
          have hlq := HM.out _ (List.getElem_mem hql)
          have hA := iand_is hlk.1 (show l[k] < 4611686018427387904 by omega) hlq.1 (show l[q] < 4611686018427387904 by omega)
          obtain ⟨x, hx⟩ : ∃ x, x = iand l[k] l[q] := ⟨_, rfl⟩
          rw [← hx] at hA
          have hr : clashS (l.getD k 0) (l.getD q 0) = ((x != 0) && (x != l[k]) && (x != l[q])) := by rw [getD_at l k hlt, getD_at l q hql]; unfold clashS; rw [hx]
          have HR := Lib.hid hr
          clear hr hx
          cases h1 : (x != 0) with
          | false =>
            have hp : (!clashS (l.getD k 0) (l.getD q 0)) = true := by rw [HR.out, h1]; rfl
            have HP := Lib.hid hp
            clear hp
            go_wp2
            go_quiet (fail)
            go_wp2
            go_roundw
            case rel => exact ⟨q + 1, n + nq, by omega, by go_num, by simp, allTo_succ HI.out HP.out⟩
            case measure => simp [intOf]; omega
          | true =>
            cases h2 : (x != l[k]) with
            | false =>
              have hp : (!clashS (l.getD k 0) (l.getD q 0)) = true := by rw [HR.out, h1, h2]; rfl
              have HP := Lib.hid hp
              clear hp
              go_wp2
              go_quiet (fail)
              go_wp2
              go_roundw
              case rel => exact ⟨q + 1, n + nq, by omega, by go_num, by simp, allTo_succ HI.out HP.out⟩
              case measure => simp [intOf]; omega
            | true =>
              cases h3 : (x != l[q]) with
              | false =>
                have hp : (!clashS (l.getD k 0) (l.getD q 0)) = true := by rw [HR.out, h1, h2, h3]; rfl
                have HP := Lib.hid hp
                clear hp
                go_wp2
                go_quiet (fail)
                go_wp2
                go_roundw
                case rel => exact ⟨q + 1, n + nq, by omega, by go_num, by simp, allTo_succ HI.out HP.out⟩
                case measure => simp [intOf]; omega
              | true =>
                have hp : (!clashS (l.getD k 0) (l.getD q 0)) = false := by rw [HR.out, h1, h2, h3]; rfl
                have HP := Lib.hid hp
                clear hp
                go_wp2
                go_quiet (fail)
                go_wp2
                go_ret
                exact ⟨ret_bool (allTo_false (p := fun i => allTo (fun k => !clashS (l.getD i 0) (l.getD k 0)) i) hlt (allTo_false (p := fun q => !clashS (l.getD k 0) (l.getD q 0)) hle HP.out)).symm, (Below.refl _ _).drewN' _⟩
        · go_wp2
          go_roundw
          case rel => exact ⟨k + 1, n, by omega, by go_num, rfl, allTo_succ H.out (by rw [show k = q by omega]; exact (show k = q by omega) ▸ HI.out)⟩
          case measure => simp [intOf]; omega
    · go_wp2
      go_ret
      exact ⟨ret_bool (by unfold lamS; rw [show l.length = k by omega, H.out]), (Below.refl _ _).drewN' _⟩
end Go.Proofs.Ytmmaleidaghooaa
