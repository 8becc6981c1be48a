/- Games. Blocks that are known whole. Vectors below a function. -/
import Derived.Test.YtelmokapdkepbaaGreatDoorQ03
import Derived.Deep.RegionHeld3
section
namespace Go.Proofs.YtelmokapdkepbaaGreatDoor
open Go.RowKit Go.G5

theorem l8Vector_any (x : List Int) (v : Value) (w : World) (hv : Ints w v x) :
    Calls Tryz.prog 124 #[v] w fun e w' => e = .returned (.bool (allIn x (-5000) 5000 && decide (x.length ≤ 5))) ∧ w = w' := by
  obtain ⟨a, b, off, c, rfl, hlen, hix, hc, hb⟩ := hv.view Tryz.prog 22 3 Tryz.underlying22 intElem
  go_enter Tryz.func124, Tryz.ntmps124
  go_wp2
  go_loop [3] (fun i => ∃ k : Nat, k ≤ x.length ∧ i = .int .i64 k ∧ (x.take k).all (fun x => inB x (-5000) 5000) = true) (fun i => x.length - (intOf i).toNat)
  case atStart => exact ⟨0, Nat.zero_le _, rfl, by simp⟩
  case round =>
    obtain ⟨k, hk, rfl, hall⟩ := hrel
    have H := Lib.hid hall
    clear hall
    by_cases hlt : k < x.length
    · cases hs : inB x[k] (-5000) 5000 with
      | true =>
        go_wp2_with (go_at_call 69; refine (l1In_any _ _ _ _).mono ?_; rintro e w' ⟨rfl, rfl⟩)
        go_round
        case rel => exact ⟨k + 1, by omega, by go_num, by rw [all_take_succ _ _ _ hlt, H.out, hs]; rfl⟩
        case measure => simp [intOf]; omega
      | false =>
        go_wp2_with (go_at_call 69; refine (l1In_any _ _ _ _).mono ?_; rintro e w' ⟨rfl, rfl⟩)
        go_ret
        exact ⟨ret_bool (by unfold allIn; rw [all_false_at _ _ _ hlt hs]; rfl), rfl⟩
    · have hx : allIn x (-5000) 5000 = true := by unfold allIn; rw [← all_of_take (fun x => inB x (-5000) 5000) x k (by omega), H.out]
      have HX := Lib.hid hx
      clear hx
      by_cases h5 : x.length ≤ 5
      · go_wp2
        go_ret
        exact ⟨ret_bool (by rw [HX.out]; simp; omega), rfl⟩
      · have h5' : decide ((x.length : Int) ≤ 5) = false := decide_eq_false (by omega)
        go_wp2
        go_ret
        exact ⟨ret_bool (by first | rfl | (rw [HX.out]; simp; omega)), rfl⟩

def isLongB (n : Int) (x : List Int) : Bool := decide ((x.length : Int) = n) && allIn x (-5000) 5000

theorem isLong_any (n : Int) (l : List Int) (v : Value) (x : List Int) (u : Value) (w : World) (hv : Ints w v l) (hu : Ints w u x) :
    Calls Tryz.prog 133 #[.agg #[.int .i64 n, v], u] w fun e w' => e = .returned (.bool (isLongB n x)) ∧ Below w.heap.size w w' := by
  obtain ⟨av, cv, rfl⟩ := hv.shape
  obtain ⟨au, cu, rfl⟩ := hu.shape
  by_cases hl : (x.length : Int) = n
  · have hx : isLongB n x = allIn x (-5000) 5000 := by unfold isLongB; rw [decide_eq_true hl]; rfl
    have ht : ((x.length : Int) == n) = true := by simp [hl]
    have HX := Lib.hid hx
    clear hx hl
    go_enter Tryz.func133, Tryz.ntmps133
    go_wp2_with (go_at_call 77; refine (areWithin_any x _ _ _ _ (hu.alloc _)).mono ?_; rintro e w' ⟨rfl, rfl⟩)
    go_ret
    exact ⟨by rw [HX.out]; rfl, bl1 _ _⟩
  · have hx : isLongB n x = false := by unfold isLongB; rw [decide_eq_false hl]; rfl
    have ht : ((x.length : Int) == n) = false := by simp [hl]
    have HX := Lib.hid hx
    clear hx hl
    go_enter Tryz.func133, Tryz.ntmps133
    go_wp2
    go_ret
    exact ⟨by rw [HX.out]; rfl, bl1 _ _⟩

theorem allOf_any (n : Int) (v : Value) (l : List Int) (w : World) (hv : Ints w v l) (h0 : 0 ≤ n) (h1 : n ≤ 40) :
    Calls Tryz.prog 80 #[.agg #[.int .i64 n, v]] w fun e w' => e = .returned (.int .i64 (2 ^ n.toNat - 1)) ∧ Below w.heap.size w w' := by
  obtain ⟨av, cv, rfl⟩ := hv.shape
  have h2 := two_pow n.toNat 40 (by omega)
  have h3 := h2.1
  have h4 := h2.2
  simp at h3
  clear h2
  go_enter Tryz.func80, Tryz.ntmps80
  go_wp2
  go_ret
  exact ⟨rfl, bl1 _ _⟩

/-- what a set's value has over its weight -/
def slackOf (l x : List Int) (s : Int) : Int := l.getD s.toNat 0 - wt x s

set_option maxHeartbeats 400000 in
theorem slack_any (n : Int) (l : List Int) (v : Value) (x : List Int) (u : Value) (s : Int) (w : World) (hv : Ints w v l) (hu : Ints w u x) (h0 : 0 ≤ s) (hs : s < l.length) (hll : l.length ≤ 64)
    (hlb : ∀ k, (hk : k < l.length) → -1000 ≤ l[k] ∧ l[k] ≤ 1000) (hx : ∀ k, (hk : k < x.length) → -5000 ≤ x[k] ∧ x[k] ≤ 5000) (hxl : x.length ≤ 6) :
    Calls Tryz.prog 160 #[.agg #[.int .i64 n, v], u, .int .i64 s] w fun e w' => e = .returned (.int .i64 (slackOf l x s)) ∧ Below w.heap.size w w' := by
  obtain ⟨a, b, off, c, rfl, hlen, hix, hc, hb⟩ := hv.view Tryz.prog 22 3 Tryz.underlying22 intElem
  obtain ⟨au, cu, rfl⟩ := hu.shape
  obtain ⟨k, rfl⟩ := Int.eq_ofNat_of_zero_le h0
  have hk : k < l.length := by omega
  have hck := cells_below hc hb (bl1 w (.cells #[.int .i64 n, .slice a l.length c] 27)) (Nat.le_refl _) k hk
  have hxk := hlb k hk
  have hw := wtTo_bd x k (fun j hj => by have := hx j hj; omega) x.length (Nat.le_refl _)
  have hw' : -6000000 ≤ wt x k ∧ wt x k ≤ 6000000 := by unfold wt; omega
  have hg : l.getD (k : Int).toNat 0 = l[k] := by simp [hk]
  have HG := Lib.hid hg
  clear hc hlb hw hg
  go_enter Tryz.func160, Tryz.ntmps160
  go_wp2
  go_quiet ((go_at_call 178; first | exact q_same2 (weightOf_any x _ _ _ ((hu.alloc _).drewN _) (by omega) (by omega) (fun j hj => by have := hx j hj; omega) (by omega)) | exact q_same (weightOf_any x _ _ _ ((hu.alloc _).drewN _) (by omega) (by omega) (fun j hj => by have := hx j hj; omega) (by omega))))
  go_wp2
  go_ret
  exact ⟨ret_int (by unfold slackOf; rw [HG.out]), (bl1 _ _).drewN' _⟩
/-! the core -/
def coreOkTo (l x : List Int) : Nat → Bool
  | 0 => true
  | k + 1 => coreOkTo l x k && decide (slackOf l x k ≤ 0)
def inCoreB (n : Int) (l x : List Int) : Bool :=
  isGrB n l && isLongB n x && coreOkTo l x l.length && (slackOf l x (2 ^ n.toNat - 1) == 0)
theorem coreOk_false (l x : List Int) (k : Nat) (h : 0 < slackOf l x k) : ∀ m, k < m → coreOkTo l x m = false := by
  intro m
  induction m with
  | zero => intro h; omega
  | succ m ih =>
    intro hm
    rw [coreOkTo]
    by_cases hkm : k < m
    · rw [ih hkm]; rfl
    · have : m = k := by omega
      subst this
      rw [decide_eq_false (by omega)]; simp

theorem longOk {n : Int} {x : List Int} (h : isLongB n x = true) : (x.length : Int) = n ∧ ∀ k, (hk : k < x.length) → -5000 ≤ x[k] ∧ x[k] ≤ 5000 := by
  unfold isLongB allIn at h
  simp only [Bool.and_eq_true, List.all_eq_true, decide_eq_true_eq] at h
  exact ⟨h.1, fun k hk => inB_true.1 (h.2 _ (List.getElem_mem hk))⟩
theorem grOk {n : Int} {l : List Int} (h : isGrB n l = true) : isFunB n l = true := by
  unfold isGrB at h
  simp only [Bool.and_eq_true] at h
  exact h.1
theorem wt_bd (x : List Int) (s : Int) (hx : ∀ k, (hk : k < x.length) → -5000 ≤ x[k] ∧ x[k] ≤ 5000) (hl : x.length ≤ 6) : -6000000 ≤ wt x s ∧ wt x s ≤ 6000000 := by
  have := wtTo_bd x s (fun k hk => by have := hx k hk; omega) x.length (Nat.le_refl _)
  unfold wt; omega

end Go.Proofs.YtelmokapdkepbaaGreatDoor
end
section
namespace Go.G5
open Go Go.RowKit
/-- block g is just the cells cs -/
def Blk (w : World) (g : Nat) (t : TypeId) (cs : Array Value) : Prop := w.heap[g]? = some (.cells cs t (0, 0))
section
variable {w w' : World} {g : Nat} {t : TypeId} {cs : Array Value}
theorem Blk.lt (h : Blk w g t cs) : g < w.heap.size := (Array.getElem?_eq_some_iff.1 h).1
theorem Blk.cell (h : Blk w g t cs) : ∀ i, w.cell? ⟨g, i, none⟩ = cs[i]? := fun i => cell_of_row w g i cs t (0, 0) h
theorem Blk.frozen (h : Blk w g t cs) : ∀ i, w.frozen? ⟨g, i, none⟩ = false := fun i => by
  unfold Blk at h
  simp [World.frozen?, h]
theorem Blk.new (w : World) (t : TypeId) (cs : Array Value) : Blk (w.alloc (.cells cs t)) w.heap.size t cs := heap_alloc_new w _
theorem Blk.keep (h : Blk w g t cs) (hb : Below w.heap.size w w') : Blk w' g t cs := (hb.block g h.lt).trans h
theorem Blk.alloc (h : Blk w g t cs) (o : Obj) : Blk (w.alloc o) g t cs := h.keep (bl1 w o)
theorem Blk.drewN (h : Blk w g t cs) (n : Nat) : Blk (w.drewN n) g t cs := h
theorem Blk.set (h : Blk w g t cs) (i : Nat) (u : Value) : Blk (w.setCell ⟨g, i, none⟩ u) g t (cs.setIfInBounds i u) := by
  unfold Blk at h ⊢
  simp [World.setCell, Array.getElem?_modify, h]
theorem Blk.far (h : Blk w g t cs) {p : Addr} (hp : g ≠ p.block) (u : Value) : Blk (w.setCell p u) g t cs := (Below.heap_setCell w p u g hp).trans h
theorem Blk.grow {row : Option Nat} (h : Blk w g t cs) (hb : w.grownBy w' row) (hg : row ≠ some g) : Blk w' g t cs := (hb.block g h.lt (fun e => hg e.symm)).trans h
end
theorem post_named {P : Program} {f : Func} {Q : Ending → World → Prop} {e : Exit} {a : Act} {W : World} (h : ∀ W', W' = W → bodyPost P f Q e a W') : bodyPost P f Q e a W := h W rfl
end Go.G5
end
section
namespace Go.Proofs.YtelmokapdkepbaaGreatDoor
open Go.RowKit Go.G5

def belOkTo (l x : List Int) : Nat → Bool
  | 0 => true
  | k + 1 => belOkTo l x k && decide (0 ≤ slackOf l x k)
def belB (n : Int) (l x : List Int) : Bool := isGrB n l && isLongB n x && belOkTo l x l.length
theorem belOk_false (l x : List Int) (k : Nat) (h : slackOf l x k < 0) : ∀ m, k < m → belOkTo l x m = false := by
  intro m
  induction m with
  | zero => intro h; omega
  | succ m ih =>
    intro hm
    rw [belOkTo]
    by_cases hkm : k < m
    · rw [ih hkm]; rfl
    · have : m = k := by omega
      subst this
      rw [decide_eq_false (by omega)]; simp
theorem belOk_true (l x : List Int) : ∀ m, belOkTo l x m = true → ∀ k : Nat, k < m → 0 ≤ slackOf l x k := by
  intro m
  induction m with
  | zero => intro _ k hk; omega
  | succ m ih =>
    intro h k hk
    rw [belOkTo] at h
    obtain ⟨h1, h2⟩ := Bool.and_eq_true_iff.1 h
    by_cases hkm : k < m
    · exact ih h1 k hkm
    · have : k = m := by omega
      subst this
      exact of_decide_eq_true h2

set_option maxHeartbeats 1000000 in
theorem isBelowI_any (w : World) (n : Int) (v : Value) (l : List Int) (hv : Ints w v l) (u : Value) (x : List Int) (hu : Ints w u x) :
    Calls Tryz.prog 132 #[.agg #[.int .i64 n, v], u] w fun e w' => e = .returned (.bool (belB n l x)) ∧ Below w.heap.size w w' := by
  obtain ⟨av, cv, rfl⟩ := hv.shape
  obtain ⟨au, cu, rfl⟩ := hu.shape
  go_enter Tryz.func132, Tryz.ntmps132
  go_wp2_with fail
  refine (isGrI_any n l _ _ (hv.alloc _)).mono ?_
  rintro e w1 ⟨rfl, hb1⟩
  have X1 := (Box2.new w n (.slice av l.length cv) 27).after hb1
  clear hb1
  cases hg : isGrB n l with
  | false =>
    have hx : belB n l x = false := by unfold belB; rw [hg]; rfl
    have HX := Lib.hid hx
    obtain ⟨d0, d1, B1, z1⟩ := X1
    clear hx
    go_wp2
    go_ret
    exact ⟨by rw [HX.out]; rfl, B1⟩
  | true =>
    obtain ⟨h0, h5, hl, hlb⟩ := funOk (grOk hg)
    have hp := pow_le32 h0 h5
    have hl32 : l.length ≤ 64 := by omega
    have HLB := Lib.hid hlb
    clear hl hlb hp
    obtain ⟨d0, d1, B1, z1⟩ := X1
    go_wp2_with fail
    refine (isLong_any n l _ x _ _ (hv.below B1 (Nat.le_refl _)) (hu.below B1 (Nat.le_refl _))).mono ?_
    rintro e w2 ⟨rfl, hb2⟩
    have X2 := (Box2.mk d0 d1 B1 z1).after hb2
    clear hb2 d0 d1 B1 z1
    cases hlo : isLongB n x with
    | false =>
      have hx : belB n l x = false := by unfold belB; rw [hg, hlo]; rfl
      have HX := Lib.hid hx
      obtain ⟨d0, d1, B1, z1⟩ := X2
      clear hx
      go_wp2
      go_ret
      exact ⟨by rw [HX.out]; rfl, B1⟩
    | true =>
      obtain ⟨hxl, hxb⟩ := longOk hlo
      have hxl6 : x.length ≤ 6 := by omega
      have hx : belB n l x = belOkTo l x l.length := by unfold belB; rw [hg, hlo]; rfl
      have HX := Lib.hid hx
      have HXB := Lib.hid hxb
      clear hx hxb hxl
      obtain ⟨d0, d1, B1, z1⟩ := X2
      go_wp2_with fail
      go_loopw [18] (fun i wr => ∃ k : Nat, k ≤ l.length ∧ i = .int .i64 k ∧ belOkTo l x k = true ∧ Box2 w wr n (.slice av l.length cv)) (fun i _ => l.length - (intOf i).toNat)
      case atStart => exact ⟨0, Nat.zero_le _, rfl, rfl, ⟨d0, d1, B1, z1⟩⟩
      case round =>
        obtain ⟨k, hk, rfl, hok, X⟩ := hrel
        have HO := Lib.hid hok
        clear hok d0 d1 B1 z1
        obtain ⟨d0, d1, B1, z1⟩ := X
        by_cases hlt : k < l.length
        · have hlt2 : (k : Int) < (l.length : Int) := by omega
          go_wp2_with fail
          refine (slack_any n l _ x _ k _ (hv.below B1 (Nat.le_refl _)) (hu.below B1 (Nat.le_refl _)) (by omega) (by omega) hl32 HLB.out HXB.out hxl6).mono ?_
          rintro e w3 ⟨rfl, hb3⟩
          have X3 := (Box2.mk d0 d1 B1 z1).after hb3
          clear hb3 d0 d1 B1 z1
          by_cases hle : slackOf l x k < 0
          · go_wp2
            go_ret
            refine ⟨ret_bool ?_, X3.B⟩
            rw [HX.out, belOk_false l x k hle _ hlt]
          · go_wp2
            go_roundw
            case rel => exact ⟨k + 1, by omega, by go_num, by rw [belOkTo, HO.out, decide_eq_true (by omega)]; rfl, X3⟩
            case measure => simp [intOf]; omega
        · have hlt2 : ¬ (k : Int) < (l.length : Int) := by omega
          have hkl : k = l.length := by omega
          have HK := Lib.hid hkl
          clear hkl
          go_wp2
          go_ret
          exact ⟨ret_bool (by rw [HX.out, ← HK.out, HO.out]), B1⟩

set_option maxHeartbeats 1000000 in
theorem isBelowS_any (w : World) (n : Int) (v : Value) (l : List Int) (hv : Ints w v l) (u : Value) (x : List Int) (hu : Ints w u x) :
    Calls Tryz.prog 123 #[.agg #[.int .i64 n, v], u] w fun e w' => e = .returned (.bool (belB n l x)) ∧ Below w.heap.size w w' := by
  obtain ⟨a, b, off, c, rfl, hlen, hix, hc, hb⟩ := hv.view Tryz.prog 22 3 Tryz.underlying22 intElem
  obtain ⟨au, cu, rfl⟩ := hu.shape
  go_enter Tryz.func123, Tryz.ntmps123
  go_wp2_with fail
  refine (isGrS_any n l _ _ (hv.alloc _)).mono ?_
  rintro e w1 ⟨rfl, hb1⟩
  have X1 := (Box2.new w n (.slice a l.length c) 27).after hb1
  clear hb1
  have hc1 := cells_below hc hb X1.B (Nat.le_refl _)
  have hu1 := hu.below X1.B (Nat.le_refl _)
  clear hc
  cases hg : isGrB n l with
  | false =>
    have hx : belB n l x = false := by unfold belB; rw [hg]; rfl
    have HX := Lib.hid hx
    obtain ⟨d0, d1, B1, z1⟩ := X1
    clear hx
    go_wp2
    go_ret
    exact ⟨by rw [HX.out]; rfl, B1⟩
  | true =>
    obtain ⟨h0, h5, hl, hlb⟩ := funOk (grOk hg)
    have hp := pow_le32 h0 h5
    have hl32 : l.length ≤ 64 := by omega
    have HLB := Lib.hid hlb
    clear hl hlb
    obtain ⟨d0, d1, B1, z1⟩ := X1
    by_cases hxl : (x.length : Int) = n
    · have hne : ((x.length : Int) != n) = false := by simp [hxl]
      have hx5 : x.length ≤ 5 := by omega
      have HXL := Lib.hid hxl
      cases hal : allIn x (-5000) 5000 with
      | false =>
        have hx : belB n l x = false := by unfold belB isLongB; rw [hg, hal]; simp
        have HX := Lib.hid hx
        clear hx hxl
        go_wp2_with (go_at_call 124; refine (l8Vector_any x _ _ hu1).mono ?_; rintro e w' ⟨rfl, rfl⟩; rw [hal])
        go_ret
        exact ⟨by rw [HX.out]; rfl, B1⟩
      | true =>
        have hlo : isLongB n x = true := by unfold isLongB; rw [hal, decide_eq_true hxl]; rfl
        obtain ⟨_, hxb⟩ := longOk hlo
        have hx : belB n l x = belOkTo l x l.length := by unfold belB; rw [hg, hlo]; rfl
        have HX := Lib.hid hx
        have HXB := Lib.hid hxb
        have hd5 : decide (x.length ≤ 5) = true := decide_eq_true hx5
        clear hx hxb hxl hlo
        go_wp2_with (go_at_call 124; refine (l8Vector_any x _ _ hu1).mono ?_; rintro e w' ⟨rfl, rfl⟩; rw [hal, hd5])
        go_loopw [5] (fun i wr => ∃ k m : Nat, k ≤ l.length ∧ i = .int .i64 k ∧ belOkTo l x k = true ∧ wr = w1.drewN m) (fun i _ => l.length - (intOf i).toNat)
        case atStart => exact ⟨0, 0, Nat.zero_le _, rfl, rfl, rfl⟩
        case round =>
          obtain ⟨k, m, hk, rfl, hok, rfl⟩ := hrel
          have HO := Lib.hid hok
          clear hok
          by_cases hlt : k < l.length
          · have hlt2 : (k : Int) < (l.length : Int) := by omega
            have hsl : slackOf l x k = l[k] - wt x k := by unfold slackOf; simp [hlt]
            have HS := Lib.hid hsl
            clear hsl
            by_cases hle : wt x k > l[k]
            · go_wp2
              go_quiet ((go_at_call 151; first | exact q_same2 (l3Weigh_any x _ _ _ (hu1.drewN _) (by omega) (by omega) (fun j hj => by have := HXB.out j hj; omega) (by omega)) | exact q_same (l3Weigh_any x _ _ _ (hu1.drewN _) (by omega) (by omega) (fun j hj => by have := HXB.out j hj; omega) (by omega))))
              go_wp2
              go_ret
              refine ⟨ret_bool ?_, (B1.drewN' _).drewN' _⟩
              rw [HX.out, belOk_false l x k (by rw [HS.out]; omega) _ hlt]
            · go_wp2
              go_quiet ((go_at_call 151; first | exact q_same2 (l3Weigh_any x _ _ _ (hu1.drewN _) (by omega) (by omega) (fun j hj => by have := HXB.out j hj; omega) (by omega)) | exact q_same (l3Weigh_any x _ _ _ (hu1.drewN _) (by omega) (by omega) (fun j hj => by have := HXB.out j hj; omega) (by omega))))
              go_wp2
              go_roundw
              case rel => exact ⟨k + 1, m + nq, by omega, by go_num, by rw [belOkTo, HO.out, decide_eq_true (by rw [HS.out]; omega)]; rfl, by simp⟩
              case measure => simp [intOf]; omega
          · have hlt2 : ¬ (k : Int) < (l.length : Int) := by omega
            have hkl : k = l.length := by omega
            have HK := Lib.hid hkl
            clear hkl
            go_wp2
            go_ret
            exact ⟨ret_bool (by rw [HX.out, ← HK.out, HO.out]), B1.drewN' _⟩
    · have hne : ((x.length : Int) != n) = true := by simp [hxl]
      have hx : belB n l x = false := by unfold belB isLongB; rw [hg, decide_eq_false hxl]; rfl
      have HX := Lib.hid hx
      clear hx hxl
      go_wp2
      go_ret
      exact ⟨by rw [HX.out]; rfl, B1⟩
end Go.Proofs.YtelmokapdkepbaaGreatDoor
end
