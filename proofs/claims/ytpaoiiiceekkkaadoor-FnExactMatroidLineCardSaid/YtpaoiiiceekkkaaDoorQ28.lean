/- Greedy covers. -/
import Derived.Test.YtpaoiiiceekkkaaDoorQ27
section
namespace Go.Proofs.YtpaoiiiceekkkaaDoor
open Go.RowKit Go.G5

set_option maxHeartbeats 2000000 in
set_option maxRecDepth 100000 in
theorem greedyI_c (w : World) (g : Int) (v : Value) (l : List Int) (hv : Ints w v l) (hl0 : l.length ≤ 1048576) :
    Calls Tryd.prog 84 #[.agg #[.int .i64 g, v]] w fun e w' => ∃ ad i cp, e = .returned (.tuple #[.slice ad i cp, .bool (greedyB g l)]) ∧ OwnI 3 w.heap.size w' (.slice ad i cp) (greedyL g l) ∧ Below w.heap.size w w' := by
  obtain ⟨a, b, off, c, rfl, hlen, hix, hc, hb⟩ := hv.view Tryd.prog 22 3 Tryd.underlying22 intElem
  obtain ⟨d0, d1, B1, z1⟩ := Box2.new w g (.slice a l.length c) 32
  obtain ⟨W0, hW0⟩ : ∃ W, W = w.alloc (.cells #[.int .i64 g, .slice a l.length c] 32) := ⟨_, rfl⟩
  rw [← hW0] at d0 d1 B1 z1
  cases hf : isFamB g l with
  | false =>
    have hx : greedyOf g l = none := by unfold greedyOf; rw [hf]; rfl
    have hxB : greedyB g l = false := by unfold greedyB; rw [hx]; rfl
    have hxL : greedyL g l = [] := by unfold greedyL; rw [hx]; rfl
    have HB := Lib.hid hxB
    have HL := Lib.hid hxL
    clear hx hxB hxL hc
    go_enter Tryd.func84, Tryd.ntmps84
    go_wp2
    rw [← hW0]
    clear hW0
    have e0 : ∀ x : Ext W0, x.w.cell? ⟨w.heap.size, 0, none⟩ = some (.int .i64 g) := fun x => x.cell d0
    have e1 : ∀ x : Ext W0, x.w.cell? ⟨w.heap.size, 1, none⟩ = some (.slice a l.length c) := fun x => x.cell d1
    have hv0 := hv.below B1 (Nat.le_refl _)
    refine wp_region_ext _ (by kernel_rfl) (by kernel_rfl) ?_
    repeat (first | go_big_quiet_skip | (go_big_quiet_want; go_big_quiet_op; first | go_big_quiet_on | (apply Exists.intro; refine ⟨fun _ => ?_, ?_⟩; (go_at_call 78; exact ext_bool (isFamI_any g l _ _ (Ext.ints _ hv0)) hf); go_big_quiet_on)))
    refine wpQuiet_nil ?_
    rintro w3 ⟨⟨w3, hb3⟩, rfl⟩
    try dsimp only
    clear e0 e1
    have B3 := B1.after hb3 B1.size
    go_wp2
    go_ret2
    exact ⟨none, 0, 0, by rw [HB.out]; rfl, by rw [HL.out]; exact OwnI.nil _ _ _, (by repeat (first | exact Below.refl _ _ | (with_reducible refine Below.setCell ?_ (by first | omega | (simp; done) | (simp; omega)) _) | (with_reducible refine Below.alloc ?_ (by first | omega | (simp; done) | (simp; omega)) _) | (with_reducible refine Below.drewN' ?_ _) | (with_reducible refine Below.drew ?_) | (with_reducible assumption) | refine Below.trans ?_ (Below.mono (by assumption) (by first | omega | (simp; done) | (simp; omega)))))⟩
  | true =>
    obtain ⟨h0, h6, hs, _⟩ := famOk hf
    have hm := fam_mem hf
    have hp := pow_le64 h0 h6
    have hp1 := (two_pow g.toNat 6 (by omega)).2
    have hv0 := hv.below B1 (Nat.le_refl _)
    have e0 : ∀ x : Ext W0, x.w.cell? ⟨w.heap.size, 0, none⟩ = some (.int .i64 g) := fun x => x.cell d0
    have e1 : ∀ x : Ext W0, x.w.cell? ⟨w.heap.size, 1, none⟩ = some (.slice a l.length c) := fun x => x.cell d1
    have HM := Lib.hid hm
    have HS := Lib.hid hs
    clear hm hs
    by_cases hu : unionL l = 2 ^ g.toNat - 1
    · have hne : (unionL l != 2 ^ g.toNat - 1) = false := by simp [hu]
      have HU := Lib.hid hu
      clear hu
      go_enter Tryd.func84, Tryd.ntmps84
      go_wp2
      rw [← hW0]
      clear hW0
      refine wp_region_ext _ (by kernel_rfl) (by kernel_rfl) ?_
      repeat (first | go_big_quiet_skip | (go_big_quiet_want; go_big_quiet_op; first | go_big_quiet_on | (apply Exists.intro; refine ⟨fun _ => ?_, ?_⟩; (first | (go_at_call 78; exact ext_bool (isFamI_any g l _ _ (Ext.ints _ hv0)) hf) | (go_at_call 144; exact ext_same (unionOf_any l _ _ (Ext.ints _ hv0) HM.out)) | (go_at_call 145; exact ext_call (groundOf_any g _ l _ (Ext.ints _ hv0) h0 (by omega)))); go_big_quiet_on)))
      refine wpQuiet_nil ?_
      rintro w3 ⟨⟨w3, hb3⟩, rfl⟩
      try dsimp only
      clear e0 e1
      have X3 := (Box2.mk d0 d1 B1 z1).after hb3
      obtain ⟨c0, c1, B3, z3⟩ := X3
      clear d0 d1 hb3 z1
      go_wp2_with fail
      refine (groundOf_any g _ l _ (hv.below B3 (Nat.le_refl _)) h0 (by omega)).mono ?_
      rintro e w4 ⟨rfl, hb4⟩
      have X4 := (Box2.mk c0 c1 B3 z3).after hb4
      clear hb4 c0 c1 B3 z3
      obtain ⟨d0, d1, B4, z4⟩ := X4
      go_wp2_with fail
      go_loopw [4, 5] (fun out lf wr => ∃ (ad : Option Addr) (nn cp : Nat) (acc : List Int) (cur : Int) (n : Nat), out = .slice ad nn cp ∧ lf = .int .i64 cur ∧ 0 ≤ cur ∧ cur < 2 ^ g.toNat ∧ cur ≤ n ∧ acc.length ≤ 64 - n ∧ n ≤ 64 ∧
          greedyRun l 64 (2 ^ g.toNat - 1) = (greedyRun l n cur).map (acc ++ ·) ∧ OwnI 3 (w.heap.size + 1) wr (.slice ad nn cp) acc ∧ Box2 w wr g (.slice a l.length c))
        (fun _ lf _ => (intOf lf).toNat)
      case atStart => exact ⟨none, 0, 0, [], _, 64, rfl, rfl, by omega, by omega, by omega, by simp, by omega, by simp, OwnI.nil _ _ _, ⟨d0, d1, B4, z4⟩⟩
      case round =>
        obtain ⟨ad, nn, cp, acc, cur, n, rfl, rfl, hc0, hc1, hcn, hal, hn64, hrun, ho, X⟩ := hrel
        have HR := Lib.hid hrun
        have HO := Lib.hid ho
        clear hrun ho d0 d1
        obtain ⟨d0, d1, B5, z5⟩ := X
        by_cases hcz : cur = 0
        · have ht : (cur != 0) = false := by simp [hcz]
          have hres : greedyOf g l = some acc := by
            unfold greedyOf; rw [if_pos hf, HR.out, hcz]
            cases n <;> simp [greedyRun]
          have hxB : greedyB g l = true := by unfold greedyB; rw [hres]; rfl
          have hxL : greedyL g l = acc := by unfold greedyL; rw [hres]; rfl
          have HB := Lib.hid hxB
          have HL := Lib.hid hxL
          clear hcz hres hxB hxL
          go_wp2
          go_ret2
          exact ⟨ad, nn, cp, by rw [HB.out]; rfl, by rw [HL.out]; exact HO.out.mono (Nat.le_succ _), B5⟩
        · have ht : (cur != 0) = true := by simp [hcz]
          have hcks := cells_below hc hb B5 (Nat.le_refl _)
          have hbm := best_meets g.toNat l cur HM.out (by omega) hc1 HU.out
          have hbb := best_bd l cur HM.out
          have HBM := Lib.hid hbm
          clear hbm
          go_wp2_with fail
          go_loop [6, 27] (fun m i => ∃ k : Nat, k ≤ l.length ∧ i = .int .i64 k ∧ m = .int .i64 ((l.take k).foldl (betterF cur) 0)) (fun _ i => l.length - (intOf i).toNat)
          case atStart => exact ⟨0, Nat.zero_le _, rfl, rfl⟩
          case round =>
            obtain ⟨k, hk, rfl, rfl⟩ := hrel
            have hmb : 0 ≤ (l.take k).foldl (betterF cur) 0 ∧ (l.take k).foldl (betterF cur) 0 < 64 := by
              rcases best_mem cur (l.take k) 0 with h1 | h1
              · rw [h1]; omega
              · exact HM.out _ (List.mem_of_mem_take h1)
            obtain ⟨m, hme⟩ : ∃ m, m = (l.take k).foldl (betterF cur) 0 := ⟨_, rfl⟩
            rw [← hme] at hmb ⊢
            have HME := Lib.hid hme
            clear hme
            by_cases hlt : k < l.length
            · have hlk := HM.out _ (List.getElem_mem hlt)
              have hA1 := iand_is hlk.1 (show l[k] < 4611686018427387904 by omega) hc0 (by omega)
              have hA2 := iand_is hmb.1 (show m < 4611686018427387904 by omega) hc0 (by omega)
              have hi1 := iand_bd l[k] cur 64 hlk.1 hlk.2
              have hi2 := iand_bd m cur 64 hmb.1 hmb.2
              by_cases hbt : ipop (iand m cur) < ipop (iand l[k] cur)
              · go_wp2_with (go_at_call 128; refine (sizeOf_i _ _ (by omega) (by omega)).mono ?_; rintro e w' ⟨rfl, rfl⟩)
                go_round
                case rel => exact ⟨k + 1, by omega, by go_num, by rw [fold_take _ _ _ _ hlt, ← HME.out, betterF, if_pos hbt]⟩
                case measure => simp [intOf]; omega
              · go_wp2_with (go_at_call 128; refine (sizeOf_i _ _ (by omega) (by omega)).mono ?_; rintro e w' ⟨rfl, rfl⟩)
                go_round
                case rel => exact ⟨k + 1, by omega, by go_num, by rw [fold_take _ _ _ _ hlt, ← HME.out, betterF, if_neg (by omega)]⟩
                case measure => simp [intOf]; omega
            · have hmb2 : m = bestOf l cur := by rw [HME.out]; unfold bestOf; rw [fold_all _ _ _ _ (by omega)]
              have HMB := Lib.hid hmb2
              have hN := idif_is hc0 (by omega) hmb.1 hmb.2
              clear hmb2 hcks
              go_wp2_with (at_builtin; refine wpList_appendI rfl _ _ _ rfl 3 Tryd.underlying22 intElem (w.heap.size + 1) _ _ m wr.heap.size rfl rfl (by simp) (HO.out.alloc _) ⟨by omega, by omega⟩ (by omega) (by simp; omega) ?_; intro v' w6 hown hgr; obtain ⟨av, nv, cv, rfl⟩ := hown.shape3)
              have X6 := ((Box2.mk d0 d1 B5 z5).after (bl1 _ (.cells #[.int .i64 m] 3))).grow hgr (fun k hk => by have := (HO.out.lt k hk).1; omega)
              have HW := Lib.hid hown
              have hid2 : idif cur m < cur := by rw [HMB.out]; exact idif_lt hc0 HBM.out
              have hid3 : 0 ≤ idif cur m := by unfold idif; omega
              clear hown hgr
              go_wp2
              go_roundw
              case rel =>
                obtain ⟨n', rfl⟩ : ∃ n', n = n' + 1 := ⟨n - 1, by omega⟩
                refine ⟨_, _, _, acc ++ [m], idif cur m, n', rfl, rfl, hid3, by omega, by omega, by simp; omega, by omega, ?_, HW.out, X6⟩
                rw [HR.out, greedyRun, if_neg hcz, if_neg HBM.out, ← HMB.out]
                cases greedyRun l n' (idif cur m) <;> simp
              case measure => simp [intOf]; omega
    · have hne : (unionL l != 2 ^ g.toNat - 1) = true := by simp [hu]
      have hx := greedy_none hf hu
      have hxB : greedyB g l = false := by unfold greedyB; rw [hx]; rfl
      have hxL : greedyL g l = [] := by unfold greedyL; rw [hx]; rfl
      have HB := Lib.hid hxB
      have HL := Lib.hid hxL
      clear hx hxB hxL hu hc
      go_enter Tryd.func84, Tryd.ntmps84
      go_wp2
      rw [← hW0]
      clear hW0
      refine wp_region_ext _ (by kernel_rfl) (by kernel_rfl) ?_
      repeat (first | go_big_quiet_skip | (go_big_quiet_want; go_big_quiet_op; first | go_big_quiet_on | (apply Exists.intro; refine ⟨fun _ => ?_, ?_⟩; (first | (go_at_call 78; exact ext_bool (isFamI_any g l _ _ (Ext.ints _ hv0)) hf) | (go_at_call 144; exact ext_same (unionOf_any l _ _ (Ext.ints _ hv0) HM.out)) | (go_at_call 145; exact ext_call (groundOf_any g _ l _ (Ext.ints _ hv0) h0 (by omega)))); go_big_quiet_on)))
      refine wpQuiet_nil ?_
      rintro w3 ⟨⟨w3, hb3⟩, rfl⟩
      try dsimp only
      clear e0 e1
      have B3 := B1.after hb3 B1.size
      go_wp2
      go_ret2
      exact ⟨none, 0, 0, by rw [HB.out]; rfl, by rw [HL.out]; exact OwnI.nil _ _ _, B3⟩

theorem idif_sub {a b : Int} (h0 : 0 ≤ a) : a - iand a b = idif a b := by
  have := @Nat.and_le_left a.toNat b.toNat
  unfold iand idif ndiff; omega
theorem iand_comm (a b : Int) : iand a b = iand b a := by unfold iand; rw [Nat.and_comm]

set_option maxHeartbeats 2000000 in
set_option maxRecDepth 100000 in
theorem greedyS_c (w : World) (g : Int) (v : Value) (l : List Int) (hv : Ints w v l) (hl0 : l.length ≤ 1048576) :
    Calls Tryd.prog 76 #[.agg #[.int .i64 g, v]] w fun e w' => ∃ ad i cp, e = .returned (.tuple #[.slice ad i cp, .bool (greedyB g l)]) ∧ OwnI 3 w.heap.size w' (.slice ad i cp) (greedyL g l) ∧ Below w.heap.size w w' := by
  obtain ⟨a, b, off, c, rfl, hlen, hix, hc, hb⟩ := hv.view Tryd.prog 22 3 Tryd.underlying22 intElem
  have o0 : OwnI 3 (w.heap.size + 1) ((w.alloc (.cells #[.int .i64 g, .slice a l.length c] 32)).alloc (.cells #[] 3)) (.slice (some ⟨w.heap.size + 1, 0, none⟩) 0 0) [] := by
    have := OwnI.lit0 (E := 3) (B := w.heap.size + 1) (w.alloc (.cells #[.int .i64 g, .slice a l.length c] 32)) (by simp)
    simpa using this
  have X0 := (Box2.new w g (.slice a l.length c) 32).after (bl1 _ (.cells #[] 3))
  go_enter Tryd.func76, Tryd.ntmps76
  go_wp2_with fail
  refine (isFamS_any g l _ _ (hv.below X0.B (Nat.le_refl _))).mono ?_
  rintro e w1 ⟨rfl, hb1⟩
  have X1 := X0.after hb1
  have o1 := o0.keep hb1
  clear X0 o0 hb1
  obtain ⟨d0, d1, B1, z1⟩ := X1
  cases hf : isFamB g l with
  | false =>
    have hx : greedyOf g l = none := by unfold greedyOf; rw [hf]; rfl
    have hxB : greedyB g l = false := by unfold greedyB; rw [hx]; rfl
    have hxL : greedyL g l = [] := by unfold greedyL; rw [hx]; rfl
    have HB := Lib.hid hxB
    have HL := Lib.hid hxL
    clear hx hxB hxL hc
    go_wp2
    go_ret2
    exact ⟨_, _, _, by rw [HB.out]; rfl, by rw [HL.out]; exact o1.mono (Nat.le_succ _), B1⟩
  | true =>
    obtain ⟨h0, h6, _, _⟩ := famOk hf
    have hm := fam_mem hf
    have hp := pow_le64 h0 h6
    have hp1 := (two_pow g.toNat 6 (by omega)).2
    have HM := Lib.hid hm
    clear hm
    go_wp2_with (go_at_call 109; refine (l2Full_i g _ h0 (by omega)).mono ?_; rintro e w' ⟨rfl, rfl⟩)
    go_loopw [4, 5] (fun out lf wr => ∃ (ad : Option Addr) (nn cp : Nat) (acc : List Int) (cur : Int) (n : Nat), out = .slice ad nn cp ∧ lf = .int .i64 cur ∧ 0 ≤ cur ∧ cur < 2 ^ g.toNat ∧ cur ≤ n ∧ acc.length ≤ 64 - n ∧ n ≤ 64 ∧
        greedyRun l 64 (2 ^ g.toNat - 1) = (greedyRun l n cur).map (acc ++ ·) ∧ OwnI 3 (w.heap.size + 1) wr (.slice ad nn cp) acc ∧ Box2 w wr g (.slice a l.length c))
      (fun _ lf _ => (intOf lf).toNat)
    case atStart => exact ⟨_, _, _, [], _, 64, rfl, rfl, by omega, by omega, by omega, by simp, by omega, by simp, o1, ⟨d0, d1, B1, z1⟩⟩
    case round =>
      obtain ⟨ad, nn, cp, acc, cur, n, rfl, rfl, hc0, hc1, hcn, hal, hn64, hrun, ho, X⟩ := hrel
      have HR := Lib.hid hrun
      have HO := Lib.hid ho
      clear hrun ho d0 d1 o1
      obtain ⟨d0, d1, B5, z5⟩ := X
      by_cases hcz : 0 < cur
      · have hcks := cells_below hc hb B5 (Nat.le_refl _)
        have hbb := best_bd l cur HM.out
        go_wp2_with fail
        go_loop [6, 7] (fun m i => ∃ k : Nat, k ≤ l.length ∧ i = .int .i64 k ∧ m = .int .i64 ((l.take k).foldl (betterF cur) 0)) (fun _ i => l.length - (intOf i).toNat)
        case atStart => exact ⟨0, Nat.zero_le _, rfl, rfl⟩
        case round =>
          obtain ⟨k, hk, rfl, rfl⟩ := hrel
          have hmb : 0 ≤ (l.take k).foldl (betterF cur) 0 ∧ (l.take k).foldl (betterF cur) 0 < 64 := by
            rcases best_mem cur (l.take k) 0 with h1 | h1
            · rw [h1]; omega
            · exact HM.out _ (List.mem_of_mem_take h1)
          obtain ⟨m, hme⟩ : ∃ m, m = (l.take k).foldl (betterF cur) 0 := ⟨_, rfl⟩
          rw [← hme] at hmb ⊢
          have HME := Lib.hid hme
          clear hme
          have hA2 := iand_is hmb.1 (show m < 4611686018427387904 by omega) hc0 (by omega)
          have hA3 := iand_is hc0 (show cur < 4611686018427387904 by omega) hmb.1 (by omega)
          have hi2 := iand_bd m cur 64 hmb.1 hmb.2
          by_cases hlt : k < l.length
          · have hlk := HM.out _ (List.getElem_mem hlt)
            have hA1 := iand_is hlk.1 (show l[k] < 4611686018427387904 by omega) hc0 (by omega)
            have hi1 := iand_bd l[k] cur 64 hlk.1 hlk.2
            by_cases hbt : ipop (iand m cur) < ipop (iand l[k] cur)
            · go_wp2_with (go_at_call 117; refine (l2Size_i _ _ (by omega) (by omega)).mono ?_; rintro e w' ⟨rfl, rfl⟩)
              go_round
              case rel => exact ⟨k + 1, by omega, by go_num, by rw [fold_take _ _ _ _ hlt, ← HME.out, betterF, if_pos hbt]⟩
              case measure => simp [intOf]; omega
            · go_wp2_with (go_at_call 117; refine (l2Size_i _ _ (by omega) (by omega)).mono ?_; rintro e w' ⟨rfl, rfl⟩)
              go_round
              case rel => exact ⟨k + 1, by omega, by go_num, by rw [fold_take _ _ _ _ hlt, ← HME.out, betterF, if_neg (by omega)]⟩
              case measure => simp [intOf]; omega
          · have hmb2 : m = bestOf l cur := by rw [HME.out]; unfold bestOf; rw [fold_all _ _ _ _ (by omega)]
            have HMB := Lib.hid hmb2
            have hi3 := iand_bd cur m 64 hc0 (by omega)
            clear hmb2 hcks
            by_cases hmz : iand m cur = 0
            · have ht : (iand m cur == 0) = true := by simp [hmz]
              have hres : greedyOf g l = none := by
                unfold greedyOf; rw [if_pos hf, HR.out]
                cases n with
                | zero => omega
                | succ n => rw [greedyRun, if_neg (by omega), if_pos (by rw [← HMB.out]; exact hmz)]; rfl
              have hxB : greedyB g l = false := by unfold greedyB; rw [hres]; rfl
              have hxL : greedyL g l = [] := by unfold greedyL; rw [hres]; rfl
              have HB := Lib.hid hxB
              have HL := Lib.hid hxL
              have o9 := OwnI.lit0 (E := 3) (B := wr.heap.size) wr (Nat.le_refl _)
              clear hres hxB hxL hmz
              go_wp2
              go_ret2
              exact ⟨_, _, _, by rw [HB.out]; rfl, by rw [HL.out]; exact o9.mono B5.size, B5.alloc B5.size _⟩
            · have ht : (iand m cur == 0) = false := by simp [hmz]
              have HMZ := Lib.hid hmz
              clear hmz
              go_wp2_with (at_builtin; refine wpList_appendI rfl _ _ _ rfl 3 Tryd.underlying22 intElem (w.heap.size + 1) _ _ m wr.heap.size rfl rfl (by simp) (HO.out.alloc _) ⟨by omega, by omega⟩ (by omega) (by simp; omega) ?_; intro v' w6 hown hgr; obtain ⟨av, nv, cv, rfl⟩ := hown.shape3)
              have X6 := ((Box2.mk d0 d1 B5 z5).after (bl1 _ (.cells #[.int .i64 m] 3))).grow hgr (fun k hk => by have := (HO.out.lt k hk).1; omega)
              have HW := Lib.hid hown
              have hid1 : cur - iand cur m = idif cur m := idif_sub hc0
              have HI1 := Lib.hid hid1
              have hid2 : idif cur m < cur := by rw [HMB.out]; exact idif_lt hc0 (by rw [← HMB.out]; exact HMZ.out)
              have hid3 : 0 ≤ idif cur m := by unfold idif; omega
              clear hown hgr hid1
              go_wp2
              go_roundw
              case rel =>
                obtain ⟨n', rfl⟩ : ∃ n', n = n' + 1 := ⟨n - 1, by omega⟩
                refine ⟨_, _, _, acc ++ [m], cur - iand cur m, n', rfl, rfl, by rw [HI1.out]; exact hid3, by rw [HI1.out]; omega, by rw [HI1.out]; omega, by simp; omega, by omega, ?_, HW.out, X6⟩
                rw [HR.out, greedyRun, if_neg (by omega), if_neg (by rw [← HMB.out]; exact HMZ.out), ← HMB.out, HI1.out]
                cases greedyRun l n' (idif cur m) <;> simp
              case measure => have := HI1.out; simp only [intOf]; omega
      · have hcz0 : cur = 0 := by omega
        have hres : greedyOf g l = some acc := by
          unfold greedyOf; rw [if_pos hf, HR.out, hcz0]
          cases n <;> simp [greedyRun]
        have hxB : greedyB g l = true := by unfold greedyB; rw [hres]; rfl
        have hxL : greedyL g l = acc := by unfold greedyL; rw [hres]; rfl
        have HB := Lib.hid hxB
        have HL := Lib.hid hxL
        clear hcz0 hres hxB hxL
        go_wp2
        go_ret2
        exact ⟨ad, nn, cp, by rw [HB.out]; rfl, by rw [HL.out]; exact HO.out.mono (Nat.le_succ _), B5⟩

theorem run_len (l : List Int) : ∀ n cur L, greedyRun l n cur = some L → L.length ≤ n := by
  intro n
  induction n with
  | zero =>
    intro cur L h
    simp only [greedyRun] at h
    split at h
    · simp at h; subst h; simp
    · cases h
  | succ n ih =>
    intro cur L h
    simp only [greedyRun] at h
    split at h
    · simp at h; subst h; simp
    · split at h
      · cases h
      · cases hr : greedyRun l n (idif cur (bestOf l cur)) with
        | none => rw [hr] at h; cases h
        | some L' =>
          rw [hr] at h
          simp at h
          subst h
          have := ih _ _ hr
          simp; omega
theorem greedyL_len (g : Int) (l : List Int) : (greedyL g l).length ≤ 1048576 := by
  unfold greedyL
  cases h : greedyOf g l with
  | none => simp
  | some L =>
    unfold greedyOf at h
    split at h
    · have := run_len l 64 _ L h; simp; omega
    · cases h
end Go.Proofs.YtpaoiiiceekkkaaDoor
end
