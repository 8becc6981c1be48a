/- Vectors below a function. Supermodular and modular functions; bases: both programs. -/
import Derived.Test.YtgdkeaooipmgbaaQ26
section
namespace Go.Proofs.Ytgdkeaooipmgbaa
open Go.RowKit Go.G5

def belOkTo (l x : List Int) : Nat → Bool
  | 0 => true
  | k + 1 => belOkTo l x k && decide (0 ≤ slackOf l x k)
def belB (n : Int) (l x : List Int) : Bool := isGrB n l && isLongB n x && belOkTo l x l.length
theorem belOk_false (l x : List Int) (k : Nat) (h : slackOf l x k < 0) : ∀ m, k < m → belOkTo l x m = false := by
  intro m
  induction m with
  | zero => intro h; omega
  | succ m ih =>
    intro hm
    rw [belOkTo]
    by_cases hkm : k < m
    · rw [ih hkm]; rfl
    · have : m = k := by omega
      subst this
      rw [decide_eq_false (by omega)]; simp
theorem belOk_true (l x : List Int) : ∀ m, belOkTo l x m = true → ∀ k : Nat, k < m → 0 ≤ slackOf l x k := by
  intro m
  induction m with
  | zero => intro _ k hk; omega
  | succ m ih =>
    intro h k hk
    rw [belOkTo] at h
    obtain ⟨h1, h2⟩ := Bool.and_eq_true_iff.1 h
    by_cases hkm : k < m
    · exact ih h1 k hkm
    · have : k = m := by omega
      subst this
      exact of_decide_eq_true h2

set_option maxHeartbeats 1000000 in
theorem isBelowI_any (w : World) (n : Int) (v : Value) (l : List Int) (hv : Ints w v l) (u : Value) (x : List Int) (hu : Ints w u x) :
    Calls Try.prog 63 #[.agg #[.int .i64 n, v], u] w fun e w' => e = .returned (.bool (belB n l x)) ∧ Below w.heap.size w w' := by
  obtain ⟨av, cv, rfl⟩ := hv.shape
  obtain ⟨au, cu, rfl⟩ := hu.shape
  go_enter Try.func63, Try.ntmps63
  go_wp2_with fail
  refine (isGrI_any n l _ _ (hv.alloc _)).mono ?_
  rintro e w1 ⟨rfl, hb1⟩
  have X1 := (Box2.new w n (.slice av l.length cv) 26).after hb1
  clear hb1
  cases hg : isGrB n l with
  | false =>
    have hx : belB n l x = false := by unfold belB; rw [hg]; rfl
    have HX := Lib.hid hx
    obtain ⟨d0, d1, B1, z1⟩ := X1
    clear hx
    go_wp2
    go_ret
    exact ⟨by rw [HX.out]; rfl, B1⟩
  | true =>
    obtain ⟨h0, h5, hl, hlb⟩ := funOk (grOk hg)
    have hp := pow_le32 h0 h5
    have hl32 : l.length ≤ 64 := by omega
    have HLB := Lib.hid hlb
    clear hl hlb hp
    obtain ⟨d0, d1, B1, z1⟩ := X1
    go_wp2_with fail
    refine (isLong_any n l _ x _ _ (hv.below B1 (Nat.le_refl _)) (hu.below B1 (Nat.le_refl _))).mono ?_
    rintro e w2 ⟨rfl, hb2⟩
    have X2 := (Box2.mk d0 d1 B1 z1).after hb2
    clear hb2 d0 d1 B1 z1
    cases hlo : isLongB n x with
    | false =>
      have hx : belB n l x = false := by unfold belB; rw [hg, hlo]; rfl
      have HX := Lib.hid hx
      obtain ⟨d0, d1, B1, z1⟩ := X2
      clear hx
      go_wp2
      go_ret
      exact ⟨by rw [HX.out]; rfl, B1⟩
    | true =>
      obtain ⟨hxl, hxb⟩ := longOk hlo
      have hxl6 : x.length ≤ 6 := by omega
      have hx : belB n l x = belOkTo l x l.length := by unfold belB; rw [hg, hlo]; rfl
      have HX := Lib.hid hx
      have HXB := Lib.hid hxb
      clear hx hxb hxl
      obtain ⟨d0, d1, B1, z1⟩ := X2
      go_wp2_with fail
      go_loopw [18] (fun i wr => ∃ k : Nat, k ≤ l.length ∧ i = .int .i64 k ∧ belOkTo l x k = true ∧ Box2 w wr n (.slice av l.length cv)) (fun i _ => l.length - (intOf i).toNat)
      case atStart => exact ⟨0, Nat.zero_le _, rfl, rfl, ⟨d0, d1, B1, z1⟩⟩
      case round =>
        obtain ⟨k, hk, rfl, hok, X⟩ := hrel
        have HO := Lib.hid hok
        clear hok d0 d1 B1 z1
        obtain ⟨d0, d1, B1, z1⟩ := X
        by_cases hlt : k < l.length
        · have hlt2 : (k : Int) < (l.length : Int) := by omega
          go_wp2_with fail
          refine (slack_any n l _ x _ k _ (hv.below B1 (Nat.le_refl _)) (hu.below B1 (Nat.le_refl _)) (by omega) (by omega) hl32 HLB.out HXB.out hxl6).mono ?_
          rintro e w3 ⟨rfl, hb3⟩
          have X3 := (Box2.mk d0 d1 B1 z1).after hb3
          clear hb3 d0 d1 B1 z1
          by_cases hle : slackOf l x k < 0
          · go_wp2
            go_ret
            refine ⟨ret_bool ?_, X3.B⟩
            rw [HX.out, belOk_false l x k hle _ hlt]
          · go_wp2
            go_roundw
            case rel => exact ⟨k + 1, by omega, by go_num, by rw [belOkTo, HO.out, decide_eq_true (by omega)]; rfl, X3⟩
            case measure => simp [intOf]; omega
        · have hlt2 : ¬ (k : Int) < (l.length : Int) := by omega
          have hkl : k = l.length := by omega
          have HK := Lib.hid hkl
          clear hkl
          go_wp2
          go_ret
          exact ⟨ret_bool (by rw [HX.out, ← HK.out, HO.out]), B1⟩

end Go.Proofs.Ytgdkeaooipmgbaa
end
section
namespace Go.Proofs.Ytgdkeaooipmgbaa
open Go.RowKit Go.G5

def supB (n : Int) (l : List Int) : Bool := isFunB n l && subB n (negL l)
def modulB (n : Int) (l : List Int) : Bool := subB n l && supB n l
set_option maxHeartbeats 1000000 in
set_option maxRecDepth 100000 in
theorem supI_any (n : Int) (l : List Int) (v : Value) (w : World) (hv : Ints w v l) (hl : l.length ≤ 1048576) :
    Calls Try.prog 17 #[.agg #[.int .i64 n, v]] w fun e w' => e = .returned (.bool (supB n l)) ∧ Below w.heap.size w w' := by
  obtain ⟨a, c, rfl⟩ := hv.shape
  go_enter Try.func17, Try.ntmps17
  go_wp2_with fail
  refine (negI_c _ n _ l (hv.alloc _) hl).mono ?_
  rintro e w1 ⟨p1, i1, q1, rfl, o1, hb1⟩
  have B1 : Below w.heap.size w w1 := (bl1 _ _).after hb1 (by simp)
  clear hb1
  cases hf : isFunB n l with
  | false =>
    have hx : supB n l = false := by unfold supB; rw [hf]; rfl
    have HX := Lib.hid hx
    clear hx hf
    go_wp2
    go_ret
    exact ⟨by rw [HX.out]; rfl, B1.after (bl1 _ _) B1.size⟩
  | true =>
    have hx : supB n l = subB n (negL l) := by unfold supB; rw [hf]; rfl
    have hN : ngN n l = n := by unfold ngN; rw [hf]; rfl
    have hL : ngL n l = negL l := by unfold ngL; rw [hf]; rfl
    rw [hL] at o1
    rw [hN]
    have hnl : (negL l).length ≤ 1048576 := by rw [negL_len]; exact hl
    have HX := Lib.hid hx
    clear hx hN hL hf
    go_wp2_with fail
    refine (isSubI_any n (negL l) _ _ (o1.ints.alloc _) hnl).mono ?_
    rintro e w2 ⟨rfl, hb2⟩
    go_wp2
    go_ret
    exact ⟨by rw [HX.out]; rfl, (B1.after (bl1 _ _) B1.size).after hb2 (B1.after (bl1 _ _) B1.size).size⟩
set_option maxHeartbeats 1000000 in
set_option maxRecDepth 100000 in
theorem supS_any (n : Int) (l : List Int) (v : Value) (w : World) (hv : Ints w v l) (hl : l.length ≤ 1048576) :
    Calls Try.prog 20 #[.agg #[.int .i64 n, v]] w fun e w' => e = .returned (.bool (supB n l)) ∧ Below w.heap.size w w' := by
  obtain ⟨a, c, rfl⟩ := hv.shape
  go_enter Try.func20, Try.ntmps20
  go_wp2_with fail
  refine (negS_c _ n _ l (hv.alloc _) hl).mono ?_
  rintro e w1 ⟨p1, i1, q1, rfl, o1, hb1⟩
  have B1 : Below w.heap.size w w1 := (bl1 _ _).after hb1 (by simp)
  clear hb1
  cases hf : isFunB n l with
  | false =>
    have hx : supB n l = false := by unfold supB; rw [hf]; rfl
    have HX := Lib.hid hx
    clear hx hf
    go_wp2
    go_ret
    exact ⟨by rw [HX.out]; rfl, B1.after (bl1 _ _) B1.size⟩
  | true =>
    have hx : supB n l = subB n (negL l) := by unfold supB; rw [hf]; rfl
    have hN : ngN n l = n := by unfold ngN; rw [hf]; rfl
    have hL : ngL n l = negL l := by unfold ngL; rw [hf]; rfl
    rw [hL] at o1
    rw [hN]
    have hnl : (negL l).length ≤ 1048576 := by rw [negL_len]; exact hl
    have HX := Lib.hid hx
    clear hx hN hL hf
    go_wp2_with fail
    refine (isSubS_any n (negL l) _ _ (o1.ints.alloc _) hnl).mono ?_
    rintro e w2 ⟨rfl, hb2⟩
    go_wp2
    go_ret
    exact ⟨by rw [HX.out]; rfl, (B1.after (bl1 _ _) B1.size).after hb2 (B1.after (bl1 _ _) B1.size).size⟩
def baseB (n : Int) (l x : List Int) : Bool := belB n l x && (slackOf l x (2 ^ n.toNat - 1) == 0)
set_option maxHeartbeats 1000000 in
set_option maxRecDepth 100000 in
theorem isBaseI_any (w : World) (n : Int) (v : Value) (l : List Int) (hv : Ints w v l) (u : Value) (x : List Int) (hu : Ints w u x) :
    Calls Try.prog 26 #[.agg #[.int .i64 n, v], u] w fun e w' => e = .returned (.bool (baseB n l x)) ∧ Below w.heap.size w w' := by
  obtain ⟨a, c, rfl⟩ := hv.shape
  obtain ⟨au, cu, rfl⟩ := hu.shape
  have K0 := Blk.new w 26 #[.int .i64 n, .slice a l.length c]
  have B0 := bl1 w (.cells #[.int .i64 n, .slice a l.length c] 26)
  have hv0 := hv.alloc (.cells #[.int .i64 n, .slice a l.length c] 26)
  have hu0 := hu.alloc (.cells #[.int .i64 n, .slice a l.length c] 26)
  have z0 := B0.size
  obtain ⟨W0, hW0⟩ : ∃ W, W = w.alloc (.cells #[.int .i64 n, .slice a l.length c] 26) := ⟨_, rfl⟩
  rw [← hW0] at K0 B0 hv0 hu0 z0
  have G0 := K0.cell
  have e0 : ∀ y : Ext W0, y.w.cell? ⟨w.heap.size, 0, none⟩ = some (.int .i64 n) := fun y => y.cell (G0 0)
  have e1 : ∀ y : Ext W0, y.w.cell? ⟨w.heap.size, 1, none⟩ = some (.slice a l.length c) := fun y => y.cell (G0 1)
  have QB := Lib.hid (fun y : Ext W0 => isBelowI_any y.w n _ l (y.ints hv0) _ x (y.ints hu0))
  cases hb : belB n l x with
  | false =>
    have hx : baseB n l x = false := by unfold baseB; rw [hb]; rfl
    rw [hb] at QB
    have HX := Lib.hid hx
    clear hx hb G0
    go_enter Try.func26, Try.ntmps26
    go_wp2_with fail
    rw [← hW0]
    clear hW0
    refine wp_region_ext _ (by kernel_rfl) (by kernel_rfl) ?_
    repeat (first | go_big_quiet_skip | (go_big_quiet_want; go_big_quiet_op; first | go_big_quiet_on | (apply Exists.intro; refine ⟨fun _ => ?_, ?_⟩; (go_at_call 63; with_reducible exact ext_call (QB.out _)); go_big_quiet_on)))
    refine wpQuiet_nil ?_
    rintro w9 ⟨⟨w9, hb9⟩, rfl⟩
    try dsimp only
    go_wp2
    go_ret
    exact ⟨ret_bool HX.out.symm, B0.after hb9 B0.size⟩
  | true =>
    have hx : baseB n l x = (slackOf l x (2 ^ n.toNat - 1) == 0) := by unfold baseB; rw [hb]; rfl
    have hg : isGrB n l = true ∧ isLongB n x = true := by
      unfold belB at hb
      simp only [Bool.and_eq_true] at hb
      exact ⟨hb.1.1, hb.1.2⟩
    obtain ⟨N, rfl, hN5, hl2, hl32, hlb⟩ := fun_nat (grOk hg.1)
    obtain ⟨hx1, hx2⟩ := longOk hg.2
    have hpn := Nat.two_pow_pos N
    have hcast : ((2 ^ N - 1 : Nat) : Int) = (2 : Int) ^ (N : Int).toNat - 1 := by rw [Int.ofNat_sub hpn]; simp
    have QS := fun y : Ext W0 => slack_any N l _ x _ (2 ^ (N : Int).toNat - 1) y.w (y.ints hv0) (y.ints hu0) (by rw [← hcast]; omega) (by rw [← hcast]; omega) (by omega) hlb hx2 (by omega)
    have QA := Lib.hid (fun y : Ext W0 => allOf_any (N : Int) (.slice a l.length c) l y.w (y.ints hv0) (by omega) (by omega))
    simp only [Int.toNat_natCast] at QS hx
    obtain ⟨r, hr⟩ : ∃ r, r = slackOf l x (2 ^ N - 1) := ⟨_, rfl⟩
    rw [← hr] at hx
    simp only [← hr] at QS
    rw [hb] at QB
    have HX := Lib.hid hx
    have QS := Lib.hid QS
    clear hx hb G0 hr hg hl2 hlb hx1 hx2 hcast
    go_enter Try.func26, Try.ntmps26
    go_wp2_with fail
    rw [← hW0]
    clear hW0
    refine wp_region_ext _ (by kernel_rfl) (by kernel_rfl) ?_
    repeat (first | go_big_quiet_skip | (go_big_quiet_want; go_big_quiet_op; first | go_big_quiet_on | (apply Exists.intro; refine ⟨fun _ => ?_, ?_⟩; (first | (go_at_call 63; with_reducible exact ext_call (QB.out _)) | (go_at_call 55; with_reducible exact ext_call (QA.out _)) | (go_at_call 54; with_reducible exact ext_call (QS.out _))); go_big_quiet_on)))
    refine wpQuiet_nil ?_
    rintro w9 ⟨⟨w9, hb9⟩, rfl⟩
    try dsimp only
    go_wp2
    go_ret
    exact ⟨ret_bool HX.out.symm, B0.after hb9 B0.size⟩
end Go.Proofs.Ytgdkeaooipmgbaa
end
