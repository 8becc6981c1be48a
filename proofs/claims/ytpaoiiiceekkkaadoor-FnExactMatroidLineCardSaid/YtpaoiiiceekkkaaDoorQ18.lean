/- Masses of functions. -/
import Derived.Test.YtpaoiiiceekkkaaDoorQ17
import Derived.StillTailTactics
section
namespace Go.Proofs.YtpaoiiiceekkkaaDoor
open Go.RowKit Go.G5

/-- the sum of the signed values of the parts of s below k -/
def massTo (l : List Int) (s : Nat) : Nat → Int
  | 0 => 0
  | k + 1 => if ndiff k s = 0 then (if pop (ndiff s k) % 2 = 1 then massTo l s k - l.getD k 0 else massTo l s k + l.getD k 0) else massTo l s k
def masses (l : List Int) : List Int := (List.range l.length).map fun s => massTo l s (s + 1)
def massesOf (n : Int) (l : List Int) : List Int := if isFunB n l then masses l else []
theorem massTo_bd (l : List Int) (s : Nat) (h : ∀ k, (hk : k < l.length) → -1000 ≤ l[k] ∧ l[k] ≤ 1000) (k : Nat) (hk : k ≤ l.length) : -1000 * (k : Int) ≤ massTo l s k ∧ massTo l s k ≤ 1000 * (k : Int) := by
  induction k with
  | zero => simp [massTo]
  | succ k ih =>
    have h1 := ih (by omega)
    have h2 := h k (by omega)
    rw [massTo, List.getD_eq_getElem?_getD, List.getElem?_eq_getElem (show k < l.length by omega), Option.getD_some]
    split
    · split <;> omega
    · omega
theorem masses_len (l : List Int) : (masses l).length = l.length := by simp [masses]
theorem masses_get (l : List Int) (s : Nat) (h : s < (masses l).length) : (masses l)[s] = massTo l s (s + 1) := by simp [masses]
theorem set_zero (l : List Int) (s n : Nat) (h : s < n) (hl : s ≤ l.length) : (l.take s ++ List.replicate (n - s) (0 : Int)).set s 0 = l.take s ++ List.replicate (n - s) 0 := by
  rw [show n - s = (n - s - 1) + 1 by omega, List.replicate_succ]
  have e : (l.take s).length = s := by simp; omega
  rw [List.set_append_right _ _ (by omega), e]
  simp
theorem mass_fill (l : List Int) (s : Nat) (h : s < l.length) : ((masses l).take s ++ List.replicate (l.length - s) (0 : Int)).set s (massTo l s (s + 1)) = (masses l).take (s + 1) ++ List.replicate (l.length - (s + 1)) 0 := by
  have := fill_step (masses l) s (by rw [masses_len]; exact h)
  simp only [masses_get, masses_len] at this
  exact this

theorem massesOf_len (n : Int) (l : List Int) (h : l.length ≤ 1048576) : (massesOf n l).length ≤ 1048576 := by
  unfold massesOf; split
  · rw [masses_len]; exact h
  · simp

set_option maxHeartbeats 1000000 in
set_option maxRecDepth 100000 in
theorem massesI_c (w : World) (n : Int) (v : Value) (l : List Int) (hv : Ints w v l) (_ : l.length ≤ 1048576) :
    Calls Tryd.prog 61 #[.agg #[.int .i64 n, v]] w fun e w' => ∃ ad i cp, e = .returned (.slice ad i cp) ∧ OwnI 3 w.heap.size w' (.slice ad i cp) (massesOf n l) ∧ Below w.heap.size w w' := by
  obtain ⟨a, b, off, c, rfl, hlen, hix, hc, hb⟩ := hv.view Tryd.prog 22 3 Tryd.underlying22 intElem
  go_enter Tryd.func61, Tryd.ntmps61
  go_wp2_with fail
  refine (isFunI_any n l _ _ (hv.alloc _)).mono ?_
  rintro e w1 ⟨rfl, hb1⟩
  have X1 := (Box2.new w n (.slice a l.length c) 31).after hb1
  clear hb1
  cases hf : isFunB n l with
  | false =>
    have hx : massesOf n l = [] := by unfold massesOf; rw [hf]; rfl
    have HX := Lib.hid hx
    obtain ⟨d0, d1, B1, z1⟩ := X1
    clear hx
    go_wp2
    go_ret
    exact ⟨none, 0, 0, rfl, by rw [HX.out]; exact OwnI.nil _ _ _, B1⟩
  | true =>
    obtain ⟨h0, h5, hl, hlb⟩ := funOk hf
    have hp := pow_le32 h0 h5
    have hl32 : l.length ≤ 32 := by omega
    have hx : massesOf n l = masses l := by unfold massesOf; rw [hf]; rfl
    have HX := Lib.hid hx
    have HLB := Lib.hid hlb
    clear hx hl hlb hp
    have hz1 := X1.z
    obtain ⟨d0, d1, B1, z1⟩ := X1
    go_wp2_with (at_make; refine wpList_makeI rfl _ _ _ rfl 3 Tryd.underlying22 intElem l.length _ _ rfl rfl rfl rfl (by omega) ?_; intro w2 hown hg)
    have X2 := (Box2.mk d0 d1 B1 z1).grow hg (by simp)
    have hgs := hg.size
    clear hg d0 d1
    go_loopw [15] (fun i wr => ∃ s : Nat, s ≤ l.length ∧ i = .int .i64 s ∧ OwnI 3 w1.heap.size wr (.slice (some ⟨w1.heap.size, 0, none⟩) l.length l.length) ((masses l).take s ++ List.replicate (l.length - s) 0) ∧ Box2 w wr n (.slice a l.length c))
      (fun i _ => l.length - (intOf i).toNat)
    case atStart => exact ⟨0, Nat.zero_le _, rfl, by simpa using hown, X2⟩
    case round =>
      obtain ⟨s, hs, rfl, ho, X⟩ := hrel
      clear hown X2
      by_cases hlt : s < l.length
      · go_wp2_with fail
        go_loopw [20] (fun i wr' => ∃ k : Nat, k ≤ s + 1 ∧ i = .int .i64 k ∧ OwnI 3 w1.heap.size wr' (.slice (some ⟨w1.heap.size, 0, none⟩) l.length l.length) (((masses l).take s ++ List.replicate (l.length - s) 0).set s (massTo l s k)) ∧ Box2 w wr' n (.slice a l.length c))
          (fun i _ => s + 1 - (intOf i).toNat)
        case atStart => exact ⟨0, Nat.zero_le _, rfl, by rw [massTo, set_zero _ _ _ hlt (by rw [masses_len]; omega)]; exact ho, X⟩
        case round =>
          obtain ⟨k, hk, rfl, ho, X⟩ := hrel
          have B2 := X.B
          have hck := cells_below hc hb B2 (Nat.le_refl _)
          obtain ⟨d0, d1, _, z2⟩ := X
          have hbd := massTo_bd l s HLB.out k (by omega)
          obtain ⟨m, hm⟩ : ∃ m, m = massTo l s k := ⟨_, rfl⟩
          rw [← hm] at hbd ho
          have hlc : l.length = (((masses l).take s ++ List.replicate (l.length - s) 0).set s m).length := by simp [masses_len]; omega
          have HM := Lib.hid hm
          clear hm
          by_cases hks : k < s + 1
          · have hkl : k < l.length := by omega
            have hlk := HLB.out k hkl
            have hckk := hck k hkl
            have hN1 := bitsN k s (by omega) (by omega)
            have hN2 := bitsN s k (by omega) (by omega)
            have hd := ndiff_lt s k 64 (by omega)
            have hpop := pop_le (ndiff s k) (by omega)
            have hstep : massTo l s (k + 1) = if ndiff k s = 0 then (if pop (ndiff s k) % 2 = 1 then m - l[k] else m + l[k]) else m := by
              rw [massTo, ← HM.out, List.getD_eq_getElem?_getD, List.getElem?_eq_getElem hkl, Option.getD_some]
            have HS := Lib.hid hstep
            have hcs : wr.cell? ⟨w1.heap.size, s, none⟩ = some (.int .i64 m) := by
              have := ho.cellAt hlc s (by omega)
              rw [this]; simp
            have hfr := ho.frozenAt hlc s
            clear hck hstep
            by_cases hz : ndiff k s = 0
            · have ht : (((ndiff k s : Nat) : Int) != 0) = false := by simp [hz]
              have HZ := Lib.hid hz
              clear hz
              by_cases hodd : pop (ndiff s k) % 2 = 1
              · have ht2 : (((pop (ndiff s k) : Nat) : Int) % 2 == 1) = true := by simp; omega
                have ho2 := ho.stored hlc s (m - l[k]) ⟨by omega, by omega⟩
                rw [List.set_set] at ho2
                have HO := Lib.hid ho2
                have HD := Lib.hid hodd
                clear ho2 ho hlc hodd
                go_wp2_with (go_at_call 128; refine (sizeOf_any _ _ (by omega)).mono ?_; rintro e w' ⟨rfl, rfl⟩)
                go_still_tail 11, (by kernel_rfl)
                go_wp2
                go_roundw
                case rel => exact ⟨k + 1, by omega, by go_num, by rw [HS.out, if_pos HZ.out, if_pos HD.out]; exact HO.out.1.drewN 1, ((Box2.mk d0 d1 B2 z2).grow HO.out.2 (by simp; omega)).drewN 1⟩
                case measure => simp [intOf]; omega
              · have ht2 : (((pop (ndiff s k) : Nat) : Int) % 2 == 1) = false := by simp; omega
                have ho2 := ho.stored hlc s (m + l[k]) ⟨by omega, by omega⟩
                rw [List.set_set] at ho2
                have HO := Lib.hid ho2
                have HD := Lib.hid hodd
                clear ho2 ho hlc hodd
                go_wp2_with (go_at_call 128; refine (sizeOf_any _ _ (by omega)).mono ?_; rintro e w' ⟨rfl, rfl⟩)
                go_still_tail 11, (by kernel_rfl)
                go_wp2
                go_roundw
                case rel => exact ⟨k + 1, by omega, by go_num, by rw [HS.out, if_pos HZ.out, if_neg HD.out]; exact HO.out.1.drewN 1, ((Box2.mk d0 d1 B2 z2).grow HO.out.2 (by simp; omega)).drewN 1⟩
                case measure => simp [intOf]; omega
            · have ht : (((ndiff k s : Nat) : Int) != 0) = true := by simp; omega
              have HZ := Lib.hid hz
              have HO := Lib.hid ho
              clear hz ho hlc
              go_wp2
              go_roundw
              case rel => exact ⟨k + 1, by omega, by go_num, by rw [HS.out, if_neg HZ.out]; exact HO.out, ⟨d0, d1, B2, z2⟩⟩
              case measure => simp [intOf]; omega
          · have hks1 : k = s + 1 := by omega
            have ho2 : OwnI 3 w1.heap.size wr (.slice (some ⟨w1.heap.size, 0, none⟩) l.length l.length) ((masses l).take (s + 1) ++ List.replicate (l.length - (s + 1)) 0) := by
              rw [← mass_fill l s hlt, ← hks1, ← HM.out]; exact ho
            have HO := Lib.hid ho2
            clear ho2 ho hlc hck hks1
            go_wp2
            go_roundw
            case rel => exact ⟨s + 1, by omega, by go_num, HO.out, ⟨d0, d1, B2, z2⟩⟩
            case measure => simp [intOf]; omega
      · have hsl : s = l.length := by omega
        have ho2 : OwnI 3 w1.heap.size wr (.slice (some ⟨w1.heap.size, 0, none⟩) l.length l.length) (masses l) := by
          have := ho
          rw [hsl, List.take_of_length_le (by rw [masses_len]; exact Nat.le_refl _)] at this
          simpa using this
        obtain ⟨d0, d1, B2, z2⟩ := X
        have HO := Lib.hid ho2
        clear ho2 ho hsl
        go_wp2
        go_ret
        exact ⟨_, _, _, rfl, by rw [HX.out]; exact HO.out.mono B1.size, B2⟩

theorem ndiff_zero (a b : Nat) : ndiff a b = 0 ↔ a &&& b = a := by
  have := @Nat.and_le_left a b
  unfold ndiff; omega
theorem ndiff_sub (a b : Nat) (h : b &&& a = b) : ndiff a b = a - b := by unfold ndiff; rw [Nat.and_comm, h]
theorem masses_take (l : List Int) (s : Nat) (h : s < l.length) : (masses l).take (s + 1) = (masses l).take s ++ [massTo l s (s + 1)] := by
  rw [List.take_succ_eq_append_getElem (by rw [masses_len]; exact h), masses_get]

set_option maxHeartbeats 2000000 in
set_option maxRecDepth 100000 in
theorem massesS_c (w : World) (n : Int) (v : Value) (l : List Int) (hv : Ints w v l) (_ : l.length ≤ 1048576) :
    Calls Tryd.prog 45 #[.agg #[.int .i64 n, v]] w fun e w' => ∃ ad i cp, e = .returned (.slice ad i cp) ∧ OwnI 3 w.heap.size w' (.slice ad i cp) (massesOf n l) ∧ Below w.heap.size w w' := by
  obtain ⟨a, b, off, c, rfl, hlen, hix, hc, hb⟩ := hv.view Tryd.prog 22 3 Tryd.underlying22 intElem
  have X0 := Box2.new w n (.slice a l.length c) 31
  have o0 : OwnI 3 (w.heap.size + 1) ((w.alloc (.cells #[.int .i64 n, .slice a l.length c] 31)).alloc (.cells #[] 3)) (.slice (some ⟨w.heap.size + 1, 0, none⟩) 0 0) [] := by
    have := OwnI.lit0 (E := 3) (B := w.heap.size + 1) (w.alloc (.cells #[.int .i64 n, .slice a l.length c] 31)) (by simp)
    simpa using this
  have X1 := X0.after (bl1 _ (.cells #[] 3))
  have HO0 := Lib.hid o0
  have HX1 := Lib.hid X1
  clear o0 X0 X1
  go_enter Tryd.func45, Tryd.ntmps45
  go_wp2
  go_loopw [3, 4] (fun out i wr => ∃ (s : Nat) (ad : Option Addr) (nn cp : Nat), s ≤ l.length ∧ i = .int .i64 s ∧ out = .slice ad nn cp ∧ (0 < s → isFunB n l = true) ∧ OwnI 3 (w.heap.size + 1) wr (.slice ad nn cp) ((masses l).take s) ∧ Box2 w wr n (.slice a l.length c))
    (fun _ i _ => l.length - (intOf i).toNat)
  case atStart => exact ⟨0, _, _, _, Nat.zero_le _, rfl, rfl, fun h => by omega, HO0.out, HX1.out⟩
  case round =>
    obtain ⟨s, ad, nn, cp, hs, rfl, rfl, hfun, ho, X⟩ := hrel
    have HF := Lib.hid hfun
    clear hfun
    have HO := Lib.hid ho
    clear ho
    obtain ⟨d0, d1, B1, z1⟩ := X
    go_wp2_with fail
    refine (isFunS_any n l _ _ (hv.below B1 (Nat.le_refl _))).mono ?_
    rintro e w2 ⟨rfl, hb2⟩
    have X2 := (Box2.mk d0 d1 B1 z1).after hb2
    have ho2 := HO.out.keep hb2
    have HO2 := Lib.hid ho2
    clear hb2 d0 d1 B1 z1 HO ho2
    obtain ⟨d0, d1, B1, z1⟩ := X2
    cases hf : isFunB n l with
    | false =>
      have hs0 : s = 0 := by
        by_cases h : 0 < s
        · have := HF.out h; rw [hf] at this; cases this
        · omega
      have hx : massesOf n l = [] := by unfold massesOf; rw [hf]; rfl
      have HX := Lib.hid hx
      clear hx
      go_wp2
      go_ret
      exact ⟨_, _, _, rfl, by rw [HX.out]; have := HO2.out; rw [hs0] at this; exact (by simpa using this : OwnI _ _ _ _ []).mono (Nat.le_succ _), B1⟩
    | true =>
      obtain ⟨h0, h5, hl, hlb⟩ := funOk hf
      have hp := pow_le32 h0 h5
      have hl32 : l.length ≤ 32 := by omega
      have hx : massesOf n l = masses l := by unfold massesOf; rw [hf]; rfl
      have HX := Lib.hid hx
      have HLB := Lib.hid hlb
      have hck := cells_below hc hb B1 (Nat.le_refl _)
      clear hx hl hlb hp
      by_cases hlt : s < l.length
      · go_wp2_with fail
        go_loop [5, 6] (fun m t => ∃ k : Nat, k ≤ s + 1 ∧ t = .int .i64 k ∧ m = .int .i64 (massTo l s k)) (fun _ t => s + 1 - (intOf t).toNat)
        case atStart => exact ⟨0, Nat.zero_le _, rfl, rfl⟩
        case round =>
          obtain ⟨k, hk, rfl, rfl⟩ := hrel
          have hbd := massTo_bd l s HLB.out k (by omega)
          obtain ⟨m, hm⟩ : ∃ m, m = massTo l s k := ⟨_, rfl⟩
          rw [← hm] at hbd ⊢
          have HM := Lib.hid hm
          clear hm
          by_cases hks : k < s + 1
          · have hkl : k < l.length := by omega
            have hlk := HLB.out k hkl
            have hckk := hck k hkl
            have hstep : massTo l s (k + 1) = if ndiff k s = 0 then (if pop (ndiff s k) % 2 = 1 then m - l[k] else m + l[k]) else m := by
              rw [massTo, ← HM.out, List.getD_eq_getElem?_getD, List.getElem?_eq_getElem hkl, Option.getD_some]
            have HS := Lib.hid hstep
            have hA := bitsA k s (by omega) (by omega)
            clear hstep
            by_cases hz : k &&& s = k
            · have ht : (((k &&& s : Nat) : Int) != (k : Int)) = false := by simp [hz]
              have hnd : ndiff k s = 0 := (ndiff_zero k s).2 hz
              have hns : ndiff s k = s - k := ndiff_sub s k hz
              have hpop := ipop_bd ((s : Int) - k) (by omega)
              have hpe : ipop ((s : Int) - k) = (pop (ndiff s k) : Int) := by
                rw [hns]; unfold ipop; rw [show ((s : Int) - k).toNat = s - k by omega]
              have HZ := Lib.hid hnd
              have HP := Lib.hid hpe
              clear hz hnd hns hpe
              by_cases hodd : pop (ndiff s k) % 2 = 1
              · have ht2 : (ipop ((s : Int) - k) % 2 == 1) = true := by rw [HP.out]; simp; omega
                have HD := Lib.hid hodd
                clear hodd
                go_wp2_with (go_at_call 117; refine (l2Size_i _ _ (by omega) (by omega)).mono ?_; rintro e w' ⟨rfl, rfl⟩)
                go_round
                case rel => exact ⟨k + 1, by omega, by go_num, by rw [HS.out, if_pos HZ.out, if_pos HD.out]⟩
                case measure => simp [intOf]; omega
              · have ht2 : (ipop ((s : Int) - k) % 2 == 1) = false := by rw [HP.out]; simp; omega
                have HD := Lib.hid hodd
                clear hodd
                go_wp2_with (go_at_call 117; refine (l2Size_i _ _ (by omega) (by omega)).mono ?_; rintro e w' ⟨rfl, rfl⟩)
                go_round
                case rel => exact ⟨k + 1, by omega, by go_num, by rw [HS.out, if_pos HZ.out, if_neg HD.out]⟩
                case measure => simp [intOf]; omega
            · have ht : (((k &&& s : Nat) : Int) != (k : Int)) = true := by simp; omega
              have hnd : ¬ ndiff k s = 0 := fun h => hz ((ndiff_zero k s).1 h)
              have HZ := Lib.hid hnd
              clear hz hnd
              go_wp2
              go_round
              case rel => exact ⟨k + 1, by omega, by go_num, by rw [HS.out, if_neg HZ.out]⟩
              case measure => simp [intOf]; omega
          · have hks1 : k = s + 1 := by omega
            have hm1 : m = massTo l s (s + 1) := by rw [HM.out, hks1]
            have HM1 := Lib.hid hm1
            clear hks1 hm1 hck
            have hsl : (massTo l s (s+1)) = m := HM1.out.symm
            have HSL := Lib.hid hsl
            clear hsl
            go_wp2_with (at_builtin; refine wpList_appendI rfl _ _ _ rfl 3 Tryd.underlying22 intElem (w.heap.size + 1) _ _ m w2.heap.size rfl rfl (by simp) (HO2.out.alloc _) ⟨by omega, by omega⟩ (by simp [masses_len]; omega) (by simp; omega) ?_; intro v' w3 hown hgr; obtain ⟨av, nv, cv, rfl⟩ := hown.shape3)
            have hlt' : l.length ≤ 1048576 := by omega
            have X3 := ((Box2.mk d0 d1 B1 z1).after (bl1 _ (.cells #[.int .i64 m] 3))).grow hgr (fun k hk => by have := (HO2.out.lt k hk).1; omega)
            rw [← HSL.out, ← masses_take l s hlt] at hown
            have HW := Lib.hid hown
            clear hown hgr
            go_wp2
            go_roundw
            case rel => exact ⟨s + 1, _, _, _, by omega, by go_num, rfl, fun _ => hf, HW.out, X3⟩
            case measure => simp [intOf]; omega
      · have hsl : s = l.length := by omega
        have ho3 : OwnI 3 (w.heap.size + 1) w2 (.slice ad nn cp) (masses l) := by
          have := HO2.out
          rw [List.take_of_length_le (by rw [masses_len]; omega)] at this
          exact this
        have HO3 := Lib.hid ho3
        clear ho3
        go_wp2
        go_ret
        exact ⟨_, _, _, rfl, by rw [HX.out]; exact HO3.out.mono (Nat.le_succ _), B1⟩

/-! only positive masses -/
def onlyPosB (n : Int) (l : List Int) : Bool := isFunB n l && allIn ((masses l).drop 1) 0 1099511627776

theorem allIn_drop_false (m : List Int) (k : Nat) (h1 : 1 ≤ k) (h : k < m.length) (hneg : m[k] < 0) (hi : Int) : allIn (m.drop 1) 0 hi = false := by
  unfold allIn
  refine all_false_at _ _ (k - 1) (by simp; omega) ?_
  simp only [List.getElem_drop]
  have e : 1 + (k - 1) = k := by omega
  simp only [e]
  exact inB_false.2 (.inl hneg)
theorem allIn_drop_true (m : List Int) (h : ∀ k, (hk : k < m.length) → 1 ≤ k → 0 ≤ m[k] ∧ m[k] ≤ 1099511627776) : allIn (m.drop 1) 0 1099511627776 = true := by
  unfold allIn
  rw [List.all_eq_true]
  intro x hx
  obtain ⟨j, hj, rfl⟩ := List.getElem_of_mem hx
  simp only [List.getElem_drop]
  simp at hj
  exact inB_true.2 (h (1 + j) (by omega) (by omega))

end Go.Proofs.YtpaoiiiceekkkaaDoor
end
