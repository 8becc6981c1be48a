/- Laminar families. Antichains. -/
import Derived.Test.YtelmokapdkepbaaGreatDoorQ27
section
namespace Go.Proofs.YtelmokapdkepbaaGreatDoor
open Go.RowKit Go.G5

def clashI (a b : Int) : Bool := iand a b != 0 && idif a b != 0 && idif b a != 0
def clashS (a b : Int) : Bool := iand a b != 0 && iand a b != a && iand a b != b
def lamI (l : List Int) : Bool := allTo (fun i => allTo (fun j => decide (j ≤ i) || !clashI (l.getD i 0) (l.getD j 0)) l.length) l.length
def lamB (g : Int) (l : List Int) : Bool := isFamB g l && lamI l
def lamS (l : List Int) : Bool := allTo (fun i => allTo (fun k => !clashS (l.getD i 0) (l.getD k 0)) i) l.length
theorem allTo_of {p : Nat → Bool} {n : Nat} (h : ∀ k, k < n → p k = true) : allTo p n = true := by
  induction n with
  | zero => rfl
  | succ n ih => exact allTo_succ (ih fun k hk => h k (by omega)) (h n (by omega))

set_option maxHeartbeats 400000 in
theorem clash_any (a b : Int) (w : World) (ha : 0 ≤ a ∧ a < 64) (hb : 0 ≤ b ∧ b < 64) :
    Calls Tryz.prog 146 #[.int .i64 a, .int .i64 b] w fun e w' => e = .returned (.bool (clashI a b)) ∧ w = w' := by
  have hA := iand_is ha.1 (show a < 4611686018427387904 by omega) hb.1 (by omega)
  have hB := idif_is ha.1 ha.2 hb.1 hb.2
  have hC := idif_is hb.1 hb.2 ha.1 ha.2
  obtain ⟨x, hx⟩ : ∃ x, x = iand a b := ⟨_, rfl⟩
  obtain ⟨y, hy⟩ : ∃ y, y = idif a b := ⟨_, rfl⟩
  obtain ⟨z, hz⟩ : ∃ z, z = idif b a := ⟨_, rfl⟩
  rw [← hx] at hA
  rw [← hy] at hB
  rw [← hz] at hC
  have hr : clashI a b = ((x != 0) && (y != 0) && (z != 0)) := by unfold clashI; rw [hx, hy, hz]
  have HR := Lib.hid hr
  clear hr hx hy hz
  go_enter Tryz.func146, Tryz.ntmps146
  cases h1 : (x != 0) with
  | false =>
    go_wp2
    go_ret
    exact ⟨ret_bool (by rw [HR.out, h1]; rfl), rfl⟩
  | true =>
    cases h2 : (y != 0) with
    | false =>
      go_wp2
      go_ret
      exact ⟨ret_bool (by rw [HR.out, h1, h2]; rfl), rfl⟩
    | true =>
      go_wp2
      go_ret
      exact ⟨ret_bool (by rw [HR.out, h1, h2]; rfl), rfl⟩

set_option maxHeartbeats 1000000 in
theorem firstClash_any (l : List Int) (v : Value) (w : World) (hv : Ints w v l) (hm : ∀ x ∈ l, 0 ≤ x ∧ x < 64) :
    Calls Tryz.prog 114 #[v] w fun e w' => (∃ x y, e = .returned (.tuple #[.int .i64 x, .int .i64 y, .bool (!lamI l)])) ∧ w = w' := by
  obtain ⟨a, b, off, c, rfl, hlen, hix, hc, hb⟩ := hv.view Tryz.prog 22 3 Tryz.underlying22 intElem
  have HM := Lib.hid hm
  clear hm
  go_enter Tryz.func114, Tryz.ntmps114
  go_wp2
  go_loop [10] (fun i => ∃ k : Nat, k ≤ l.length ∧ i = .int .i64 k ∧ allTo (fun i => allTo (fun j => decide (j ≤ i) || !clashI (l.getD i 0) (l.getD j 0)) l.length) k = true) (fun i => l.length - (intOf i).toNat)
  case atStart => exact ⟨0, Nat.zero_le _, rfl, rfl⟩
  case round =>
    obtain ⟨k, hk, rfl, hall⟩ := hrel
    have H := Lib.hid hall
    clear hall
    by_cases hlt : k < l.length
    · have hlk := HM.out _ (List.getElem_mem hlt)
      go_wp2
      go_loop [7] (fun j => ∃ q : Nat, k + 1 ≤ q ∧ q ≤ l.length ∧ j = .int .i64 q ∧ allTo (fun j => decide (j ≤ k) || !clashI (l.getD k 0) (l.getD j 0)) q = true) (fun j => l.length - (intOf j).toNat)
      case atStart => exact ⟨k + 1, by omega, by omega, by go_num, allTo_of fun j hj => by simp [show j ≤ k by omega]⟩
      case round =>
        obtain ⟨q, hkq, hq, rfl, hin⟩ := hrel
        have HI := Lib.hid hin
        clear hin
        by_cases hql : q < l.length
        · have hlq := HM.out _ (List.getElem_mem hql)
          have hcl := clash_any l[k] l[q] w hlk hlq
          cases hz : clashI l[k] l[q] with
          | true =>
            have hp : (decide (q ≤ k) || !clashI (l.getD k 0) (l.getD q 0)) = false := by rw [getD_at l k hlt, getD_at l q hql, hz]; simp; omega
            have hx : lamI l = false := allTo_false (p := fun i => allTo (fun j => decide (j ≤ i) || !clashI (l.getD i 0) (l.getD j 0)) l.length) hlt (allTo_false (p := fun j => decide (j ≤ k) || !clashI (l.getD k 0) (l.getD j 0)) hql hp)
            have HX := Lib.hid hx
            clear hp hx
            rw [hz] at hcl
            go_wp2_with (go_at_call 146; refine hcl.mono ?_; rintro e w' ⟨rfl, rfl⟩)
            refine bodyPost_ret (v := .tuple #[.int .i64 k, .int .i64 q, .bool true]) (by simp [results, Tryz.results114, go_sem]) rfl ⟨⟨_, _, by rw [HX.out]; rfl⟩, rfl⟩
          | false =>
            have hp : (decide (q ≤ k) || !clashI (l.getD k 0) (l.getD q 0)) = true := by rw [getD_at l k hlt, getD_at l q hql, hz]; simp
            have HP := Lib.hid hp
            clear hp
            rw [hz] at hcl
            go_wp2_with (go_at_call 146; refine hcl.mono ?_; rintro e w' ⟨rfl, rfl⟩)
            go_round
            case rel => exact ⟨q + 1, by omega, by omega, by go_num, allTo_succ HI.out HP.out⟩
            case measure => simp [intOf]; omega
        · go_wp2
          go_round
          case rel => exact ⟨k + 1, by omega, by go_num, allTo_succ H.out (by rw [show l.length = q by omega]; exact HI.out)⟩
          case measure => simp [intOf]; omega
    · have hx : lamI l = true := by unfold lamI; rw [← show k = l.length by omega]; exact (show k = l.length by omega) ▸ H.out
      have HX := Lib.hid hx
      clear hx
      go_wp2
      refine bodyPost_ret (v := .tuple #[.int .i64 0, .int .i64 0, .bool false]) (by simp [results, Tryz.results114, go_sem]) rfl ⟨⟨_, _, by rw [HX.out]; rfl⟩, rfl⟩

set_option maxHeartbeats 1000000 in
theorem isLaminar_any (g : Int) (l : List Int) (v : Value) (w : World) (hv : Ints w v l) :
    Calls Tryz.prog 63 #[.agg #[.int .i64 g, v]] w fun e w' => e = .returned (.bool (lamB g l)) ∧ Below w.heap.size w w' := by
  obtain ⟨a, c, rfl⟩ := hv.shape
  have X0 := Box2.new w g (.slice a l.length c) 35
  go_enter Tryz.func63, Tryz.ntmps63
  go_wp2_with fail
  refine (isFamI_any g l _ _ (hv.alloc _)).mono ?_
  rintro e w1 ⟨rfl, hb1⟩
  obtain ⟨d0, d1, B1, z1⟩ := X0.after hb1
  have hv1 := hv.below B1 (Nat.le_refl _)
  clear hb1 X0
  cases hf : isFamB g l with
  | false =>
    have hx : lamB g l = false := by unfold lamB; rw [hf]; rfl
    have HX := Lib.hid hx
    clear hx
    go_wp2
    go_ret
    exact ⟨by rw [HX.out]; rfl, B1⟩
  | true =>
    have hx : lamB g l = lamI l := by unfold lamB; rw [hf]; rfl
    have hcl := firstClash_any l _ w1 hv1 (fam_mem hf)
    have HX := Lib.hid hx
    clear hx
    go_wp2_with (go_at_call 114; refine hcl.mono ?_; rintro e w' ⟨⟨x, y, rfl⟩, rfl⟩)
    go_ret
    exact ⟨ret_bool (by rw [HX.out]), B1⟩

set_option maxHeartbeats 1000000 in
theorem l16Laminar_any (l : List Int) (v : Value) (w : World) (hv : Ints w v l) (hm : ∀ x ∈ l, 0 ≤ x ∧ x < 64) :
    Calls Tryz.prog 98 #[v] w fun e w' => e = .returned (.bool (lamS l)) ∧ Below w.heap.size w w' := by
  obtain ⟨a, b, off, c, rfl, hlen, hix, hc, hb⟩ := hv.view Tryz.prog 22 3 Tryz.underlying22 intElem
  have HM := Lib.hid hm
  clear hm
  go_enter Tryz.func98, Tryz.ntmps98
  go_wp2
  go_loopw [3] (fun i wr => ∃ k m : Nat, k ≤ l.length ∧ i = .int .i64 k ∧ wr = w.drewN m ∧ allTo (fun i => allTo (fun k => !clashS (l.getD i 0) (l.getD k 0)) i) k = true) (fun i _ => l.length - (intOf i).toNat)
  case atStart => exact ⟨0, 0, Nat.zero_le _, rfl, rfl, rfl⟩
  case round =>
    obtain ⟨k, m, hk, rfl, rfl, hall⟩ := hrel
    have H := Lib.hid hall
    clear hall
    by_cases hlt : k < l.length
    · have hlk := HM.out _ (List.getElem_mem hlt)
      go_wp2
      go_loopw [4] (fun j wr => ∃ q n : Nat, q ≤ k ∧ j = .int .i64 q ∧ wr = w.drewN n ∧ allTo (fun q => !clashS (l.getD k 0) (l.getD q 0)) q = true) (fun j _ => k - (intOf j).toNat)
      case atStart => exact ⟨0, m, by omega, rfl, rfl, rfl⟩
      case round =>
        obtain ⟨q, n, hq, rfl, rfl, hin⟩ := hrel
        have HI := Lib.hid hin
        clear hin
        by_cases hle : q < k
        · have hql : q < l.length := by omega
          have hlq := HM.out _ (List.getElem_mem hql)
          have hA := iand_is hlk.1 (show l[k] < 4611686018427387904 by omega) hlq.1 (show l[q] < 4611686018427387904 by omega)
          obtain ⟨x, hx⟩ : ∃ x, x = iand l[k] l[q] := ⟨_, rfl⟩
          rw [← hx] at hA
          have hr : clashS (l.getD k 0) (l.getD q 0) = ((x != 0) && (x != l[k]) && (x != l[q])) := by rw [getD_at l k hlt, getD_at l q hql]; unfold clashS; rw [hx]
          have HR := Lib.hid hr
          clear hr hx
          cases h1 : (x != 0) with
          | false =>
            have hp : (!clashS (l.getD k 0) (l.getD q 0)) = true := by rw [HR.out, h1]; rfl
            have HP := Lib.hid hp
            clear hp
            go_wp2
            go_quiet (fail)
            go_wp2
            go_roundw
            case rel => exact ⟨q + 1, n + nq, by omega, by go_num, by simp, allTo_succ HI.out HP.out⟩
            case measure => simp [intOf]; omega
          | true =>
            cases h2 : (x != l[k]) with
            | false =>
              have hp : (!clashS (l.getD k 0) (l.getD q 0)) = true := by rw [HR.out, h1, h2]; rfl
              have HP := Lib.hid hp
              clear hp
              go_wp2
              go_quiet (fail)
              go_wp2
              go_roundw
              case rel => exact ⟨q + 1, n + nq, by omega, by go_num, by simp, allTo_succ HI.out HP.out⟩
              case measure => simp [intOf]; omega
            | true =>
              cases h3 : (x != l[q]) with
              | false =>
                have hp : (!clashS (l.getD k 0) (l.getD q 0)) = true := by rw [HR.out, h1, h2, h3]; rfl
                have HP := Lib.hid hp
                clear hp
                go_wp2
                go_quiet (fail)
                go_wp2
                go_roundw
                case rel => exact ⟨q + 1, n + nq, by omega, by go_num, by simp, allTo_succ HI.out HP.out⟩
                case measure => simp [intOf]; omega
              | true =>
                have hp : (!clashS (l.getD k 0) (l.getD q 0)) = false := by rw [HR.out, h1, h2, h3]; rfl
                have HP := Lib.hid hp
                clear hp
                go_wp2
                go_quiet (fail)
                go_wp2
                go_ret
                exact ⟨ret_bool (allTo_false (p := fun i => allTo (fun k => !clashS (l.getD i 0) (l.getD k 0)) i) hlt (allTo_false (p := fun q => !clashS (l.getD k 0) (l.getD q 0)) hle HP.out)).symm, (Below.refl _ _).drewN' _⟩
        · go_wp2
          go_roundw
          case rel => exact ⟨k + 1, n, by omega, by go_num, rfl, allTo_succ H.out (by rw [show k = q by omega]; exact (show k = q by omega) ▸ HI.out)⟩
          case measure => simp [intOf]; omega
    · go_wp2
      go_ret
      exact ⟨ret_bool (by unfold lamS; rw [show l.length = k by omega, H.out]), (Below.refl _ _).drewN' _⟩
end Go.Proofs.YtelmokapdkepbaaGreatDoor
end
section
namespace Go.Proofs.YtelmokapdkepbaaGreatDoor
open Go.RowKit Go.G5

theorem index_take {w : World} {a : Option Addr} {c : Nat} {l : List Int} (h : Ints w (.slice a l.length c) l) (P : Program) (T E : TypeId) (hT : P.underlying T = some (.slice E)) {b off : Nat}
    (hix : ∀ (w' : World) (k : Nat), k < l.length → (Instr.indexAt T (.slice a l.length c) (.int .i64 (k : Int))).run P w' = .ok (.pointer (some ⟨b, off + k, none⟩)) w') (k : Nat) (hk : k ≤ l.length) :
    ∀ (w' : World) (q : Nat), q < k → (Instr.indexAt T (.slice a k c) (.int .i64 (q : Int))).run P w' = .ok (.pointer (some ⟨b, off + q, none⟩)) w' := by
  intro w' q hq
  have h0 := hix w' q (by omega)
  have hE : P.elem T = E := by simp [Program.elem, hT]
  obtain ⟨a', c', he, h1, h2, _, h4⟩ := h
  simp only [Value.slice.injEq] at he
  obtain ⟨rfl, _, rfl⟩ := he
  rcases h4 with rfl | ⟨b', off', rfl, _, _⟩
  · simp at hk; omega
  · rw [run_indexAt_slice w' T ⟨b', off', none⟩ l.length c .i64 q (by rw [hE]; exact hT), if_pos ⟨by omega, by omega⟩] at h0
    rw [run_indexAt_slice w' T ⟨b', off', none⟩ k c .i64 q (by rw [hE]; exact hT), if_pos ⟨by omega, by omega⟩]
    exact h0

def apartB (a b : Int) : Bool := idif a b != 0 && idif b a != 0
def antiI (l : List Int) : Bool := allTo (fun i => allTo (fun j => apartB (l.getD i 0) (l.getD j 0)) i) l.length
def antiB (g : Int) (l : List Int) : Bool := isFamB g l && antiI l
def fineB (l : List Int) (i : Nat) : Bool := allTo (fun k => k == i || iand (l.getD k 0) (l.getD i 0) != l.getD k 0) l.length
def minTo (l : List Int) : Nat → List Int
  | 0 => []
  | k + 1 => if fineB l k then minTo l k ++ [l.getD k 0] else minTo l k
def freeS (l : List Int) : Bool := (minTo l l.length).length == l.length
theorem minTo_le (l : List Int) (k : Nat) : (minTo l k).length ≤ k := by
  induction k with
  | zero => exact Nat.le_refl _
  | succ k ih =>
    rw [minTo]
    split
    · rw [List.length_append]; simp only [List.length_cons, List.length_nil]; omega
    · omega

set_option maxHeartbeats 400000 in
theorem apart_any (a b : Int) (w : World) (ha : 0 ≤ a ∧ a < 64) (hb : 0 ≤ b ∧ b < 64) :
    Calls Tryz.prog 116 #[.int .i64 a, .int .i64 b] w fun e w' => e = .returned (.bool (apartB a b)) ∧ w = w' := by
  have hB := idif_is ha.1 ha.2 hb.1 hb.2
  have hC := idif_is hb.1 hb.2 ha.1 ha.2
  obtain ⟨y, hy⟩ : ∃ y, y = idif a b := ⟨_, rfl⟩
  obtain ⟨z, hz⟩ : ∃ z, z = idif b a := ⟨_, rfl⟩
  rw [← hy] at hB
  rw [← hz] at hC
  have hr : apartB a b = ((y != 0) && (z != 0)) := by unfold apartB; rw [hy, hz]
  have HR := Lib.hid hr
  clear hr hy hz
  go_enter Tryz.func116, Tryz.ntmps116
  cases h2 : (y != 0) with
  | false =>
    go_wp2
    go_ret
    exact ⟨ret_bool (by rw [HR.out, h2]; rfl), rfl⟩
  | true =>
    go_wp2
    go_ret
    exact ⟨ret_bool (by rw [HR.out, h2]; rfl), rfl⟩

set_option maxHeartbeats 1000000 in
theorem isAnti_any (g : Int) (l : List Int) (v : Value) (w : World) (hv : Ints w v l) :
    Calls Tryz.prog 66 #[.agg #[.int .i64 g, v]] w fun e w' => e = .returned (.bool (antiB g l)) ∧ Below w.heap.size w w' := by
  obtain ⟨a, b, off, c, rfl, hlen, hix, hc, hb⟩ := hv.view Tryz.prog 22 3 Tryz.underlying22 intElem
  have hcap := hv.capLe
  have X0 := Box2.new w g (.slice a l.length c) 35
  go_enter Tryz.func66, Tryz.ntmps66
  go_wp2_with fail
  refine (isFamI_any g l _ _ (hv.alloc _)).mono ?_
  rintro e w1 ⟨rfl, hb1⟩
  obtain ⟨d0, d1, B1, z1⟩ := X0.after hb1
  have hc1 := cells_below hc hb B1 (Nat.le_refl _)
  have hv1 := hv.below B1 (Nat.le_refl _)
  clear hc hb hb1 X0
  cases hf : isFamB g l with
  | false =>
    have hx : antiB g l = false := by unfold antiB; rw [hf]; rfl
    have HX := Lib.hid hx
    clear hx
    go_wp2
    go_ret
    exact ⟨by rw [HX.out]; rfl, B1⟩
  | true =>
    have hm := fam_mem hf
    have hx : antiB g l = antiI l := by unfold antiB; rw [hf]; rfl
    have HX := Lib.hid hx
    have HM := Lib.hid hm
    clear hx hm
    go_wp2_with fail
    go_loop [13] (fun i => ∃ k : Nat, k ≤ l.length ∧ i = .int .i64 k ∧ allTo (fun i => allTo (fun j => apartB (l.getD i 0) (l.getD j 0)) i) k = true) (fun i => l.length - (intOf i).toNat)
    case atStart => exact ⟨0, Nat.zero_le _, rfl, rfl⟩
    case round =>
      obtain ⟨k, hk, rfl, hall⟩ := hrel
      have H := Lib.hid hall
      clear hall
      by_cases hlt : k < l.length
      · have hlk := HM.out _ (List.getElem_mem hlt)
        have hixk := index_take hv1 Tryz.prog 22 3 Tryz.underlying22 hix k hk
        go_wp2
        go_loop [23] (fun j => ∃ q : Nat, q ≤ k ∧ j = .int .i64 q ∧ allTo (fun j => apartB (l.getD k 0) (l.getD j 0)) q = true) (fun j => k - (intOf j).toNat)
        case atStart => exact ⟨0, by omega, rfl, rfl⟩
        case round =>
          obtain ⟨q, hq, rfl, hin⟩ := hrel
          have HI := Lib.hid hin
          clear hin
          by_cases hqk : q < k
          · have hql : q < l.length := by omega
            have hlq := HM.out _ (List.getElem_mem hql)
            have hcl := apart_any l[k] l[q] w1 hlk hlq
            cases hz : apartB l[k] l[q] with
            | false =>
              have hx : antiI l = false := allTo_false (p := fun i => allTo (fun j => apartB (l.getD i 0) (l.getD j 0)) i) hlt (allTo_false (p := fun j => apartB (l.getD k 0) (l.getD j 0)) hqk (by rw [getD_at l k hlt, getD_at l q hql]; exact hz))
              have HX2 := Lib.hid hx
              clear hx
              rw [hz] at hcl
              go_wp2_with (go_at_call 116; refine hcl.mono ?_; rintro e w' ⟨rfl, rfl⟩)
              go_ret
              exact ⟨ret_bool (by rw [HX.out, HX2.out]), B1⟩
            | true =>
              have hp : apartB (l.getD k 0) (l.getD q 0) = true := by rw [getD_at l k hlt, getD_at l q hql]; exact hz
              have HP := Lib.hid hp
              clear hp
              rw [hz] at hcl
              go_wp2_with (go_at_call 116; refine hcl.mono ?_; rintro e w' ⟨rfl, rfl⟩)
              go_round
              case rel => exact ⟨q + 1, by omega, by go_num, allTo_succ HI.out HP.out⟩
              case measure => simp [intOf]; omega
          · have hkq : k = q := by omega
            go_wp2
            go_round
            case rel => exact ⟨k + 1, by omega, by go_num, allTo_succ H.out (by subst hkq; exact HI.out)⟩
            case measure => simp [intOf]; omega
      · have hkl : l.length = k := by omega
        go_wp2
        go_ret
        exact ⟨ret_bool (by rw [HX.out]; unfold antiI; rw [hkl, H.out]), B1⟩

set_option maxHeartbeats 2000000 in
set_option maxRecDepth 100000 in
theorem l15Minimal_any (l : List Int) (v : Value) (w : World) (hv : Ints w v l) (hm : ∀ x ∈ l, 0 ≤ x ∧ x < 64) (hll : l.length ≤ 64) :
    Calls Tryz.prog 92 #[v] w fun e w' => ∃ ad i cp, e = .returned (.slice ad i cp) ∧ OwnI 3 w.heap.size w' (.slice ad i cp) (minTo l l.length) ∧ Below w.heap.size w w' := by
  obtain ⟨a, b, off, c, rfl, hlen, hix, hc, hb⟩ := hv.view Tryz.prog 22 3 Tryz.underlying22 intElem
  have HM := Lib.hid hm
  clear hm
  have o0 := OwnI.lit0 (E := 3) (B := w.heap.size) w (Nat.le_refl _)
  go_enter Tryz.func92, Tryz.ntmps92
  go_wp2
  go_loopw [3, 4] (fun out i wr => ∃ (k : Nat) (ad : Option Addr) (nn cp : Nat), k ≤ l.length ∧ out = .slice ad nn cp ∧ i = .int .i64 k ∧ OwnI 3 w.heap.size wr (.slice ad nn cp) (minTo l k) ∧ Below w.heap.size w wr)
    (fun _ i _ => l.length - (intOf i).toNat)
  case atStart => exact ⟨0, _, _, _, Nat.zero_le _, rfl, rfl, o0, bl1 _ _⟩
  case round =>
    obtain ⟨k, ad, nn, cp, hk, rfl, rfl, ho, B⟩ := hrel
    have HO := Lib.hid ho
    clear ho
    have hck := cells_below hc hb B (Nat.le_refl _)
    by_cases hlt : k < l.length
    · have hlk := HM.out _ (List.getElem_mem hlt)
      have hmin : minTo l (k + 1) = if fineB l k then minTo l k ++ [l[k]] else minTo l k := by rw [minTo, getD_at l k hlt]
      have hmlen := minTo_le l k
      have HN := Lib.hid hmin
      clear hmin
      go_wp2
      go_loopw [5, 6] (fun f j w2 => ∃ (q n : Nat), q ≤ l.length ∧ j = .int .i64 q ∧ f = .bool (allTo (fun k' => k' == k || iand (l.getD k' 0) (l.getD k 0) != l.getD k' 0) q) ∧ w2 = wr.drewN n) (fun _ j _ => l.length - (intOf j).toNat)
      case atStart => exact ⟨0, 0, Nat.zero_le _, rfl, rfl, rfl⟩
      case round =>
        obtain ⟨q, n, hq, rfl, rfl, rfl⟩ := hrel
        by_cases hql : q < l.length
        · have hlq := HM.out _ (List.getElem_mem hql)
          have hA := iand_is hlq.1 (show l[q] < 4611686018427387904 by omega) hlk.1 (show l[k] < 4611686018427387904 by omega)
          have hs : allTo (fun k' => k' == k || iand (l.getD k' 0) (l.getD k 0) != l.getD k' 0) (q + 1) = (allTo (fun k' => k' == k || iand (l.getD k' 0) (l.getD k 0) != l.getD k' 0) q && (q == k || iand l[q] l[k] != l[q])) := by
            rw [allTo, getD_at l k hlt, getD_at l q hql]
          obtain ⟨x, hx⟩ : ∃ x, x = iand l[q] l[k] := ⟨_, rfl⟩
          rw [← hx] at hA hs
          have HS := Lib.hid hs
          clear hs hx
          cases h0 : allTo (fun k' => k' == k || iand (l.getD k' 0) (l.getD k 0) != l.getD k' 0) q with
          | false =>
            have H0 := Lib.hid h0
            clear h0
            go_wp2
            go_quiet (fail)
            go_wp2
            go_roundw
            case rel => exact ⟨q + 1, n + nq, by omega, by go_num, by rw [HS.out, H0.out]; rfl, by simp⟩
            case measure => simp [intOf]; omega
          | true =>
            have H0 := Lib.hid h0
            clear h0
            by_cases hqk : q = k
            · have ht : ((q : Int) == (k : Int)) = true := by simp [hqk]
              have hqb : (q == k) = true := by simp [hqk]
              have HQ := Lib.hid hqb
              clear hqb
              go_wp2
              go_quiet (fail)
              go_wp2
              go_roundw
              case rel => exact ⟨q + 1, n + nq, by omega, by go_num, by rw [HS.out, H0.out, HQ.out]; rfl, by simp⟩
              case measure => simp [intOf]; omega
            · have ht : ((q : Int) == (k : Int)) = false := by simp; omega
              have hqb : (q == k) = false := by simp [hqk]
              have HQ := Lib.hid hqb
              clear hqb
              cases h3 : (x != l[q]) with
              | false =>
                go_wp2
                go_quiet (fail)
                go_wp2
                go_roundw
                case rel => exact ⟨q + 1, n + nq, by omega, by go_num, by rw [HS.out, H0.out, HQ.out, h3]; rfl, by simp⟩
                case measure => simp [intOf]; omega
              | true =>
                go_wp2
                go_quiet (fail)
                go_wp2
                go_roundw
                case rel => exact ⟨q + 1, n + nq, by omega, by go_num, by rw [HS.out, H0.out, HQ.out, h3]; rfl, by simp⟩
                case measure => simp [intOf]; omega
        · have hql2 : q = l.length := by omega
          subst hql2
          have hfine : allTo (fun k' => k' == k || iand (l.getD k' 0) (l.getD k 0) != l.getD k' 0) l.length = fineB l k := rfl
          rw [hfine]
          cases hF : fineB l k with
          | false =>
            have HF := Lib.hid hF
            clear hF hfine
            go_wp2
            go_roundw
            case rel => exact ⟨k + 1, ad, nn, cp, by omega, rfl, by go_num, by rw [HN.out, HF.out]; exact HO.out.drewN _, B.drewN' _⟩
            case measure => simp [intOf]; omega
          | true =>
            have HF := Lib.hid hF
            clear hF hfine
            go_wp2_with (at_builtin; refine wpList_appendI rfl _ _ _ rfl 3 Tryz.underlying22 intElem w.heap.size _ _ l[k] wr.heap.size rfl rfl (cell_new (wr.drewN n) #[.int .i64 l[k]] 3 0 _ rfl) ((HO.out.drewN n).alloc (.cells #[.int .i64 l[k]] 3)) ⟨by omega, by omega⟩ (by omega) (Nat.le_trans B.size (by simp)) ?_; intro v' w6 hown hgr; obtain ⟨av, nv, cv, rfl⟩ := hown.shape3)
            have B6 : Below w.heap.size w w6 := ((B.drewN' n).alloc B.size (.cells #[.int .i64 l[k]] 3)).grown hgr (by have := B.size; simp; omega) (fun p hp => (HO.out.lt p hp).1)
            go_roundw
            case rel => exact ⟨k + 1, av, nv, cv, by omega, rfl, by go_num, by rw [HN.out, HF.out]; exact hown, B6⟩
            case measure => simp [intOf]; omega
    · have hkl : k = l.length := by omega
      go_wp2
      go_ret
      exact ⟨ad, nn, cp, rfl, by subst hkl; exact HO.out, B⟩

set_option maxHeartbeats 400000 in
theorem l25Free_any (l : List Int) (v : Value) (w : World) (hv : Ints w v l) (hm : ∀ x ∈ l, 0 ≤ x ∧ x < 64) (hll : l.length ≤ 64) :
    Calls Tryz.prog 101 #[v] w fun e w' => e = .returned (.bool (freeS l)) ∧ Below w.heap.size w w' := by
  obtain ⟨a, c, rfl⟩ := hv.shape
  go_enter Tryz.func101, Tryz.ntmps101
  go_wp2_with fail
  refine (l15Minimal_any l _ w hv hm hll).mono ?_
  rintro e w1 ⟨ad, i, cp, rfl, ho, hb1⟩
  have hi := ho.ints.capLe.1
  go_wp2
  go_ret
  refine ⟨ret_bool ?_, hb1⟩
  unfold freeS
  rw [← hi, Bool.eq_iff_iff]
  simp only [beq_iff_eq]
  omega
end Go.Proofs.YtelmokapdkepbaaGreatDoor
end
