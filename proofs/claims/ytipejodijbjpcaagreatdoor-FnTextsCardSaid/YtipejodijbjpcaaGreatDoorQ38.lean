/- Traces of families and shattered sets: the first program. Shattered sets and the dimension: the first program. -/
import Derived.Test.YtipejodijbjpcaaGreatDoorQ37
import Derived.Lib.MinMax
section
namespace Go.Proofs.YtipejodijbjpcaaGreatDoor
open Go.RowKit Go.G5

set_option maxHeartbeats 1000000 in
set_option maxRecDepth 100000 in
theorem tracesI_any (w : World) (g : Int) (v : Value) (l : List Int) (hv : Ints w v l) (hm : ∀ x ∈ l, 0 ≤ x ∧ x < 64) (hl : l.length ≤ 64) (s : Int) (hs : 0 ≤ s ∧ s < 64) :
    Calls Tryz.prog 227 #[.agg #[.int .i64 g, v], .int .i64 s] w fun e w' => ∃ ad i c, e = .returned (.agg #[.int .i64 g, .slice ad i c]) ∧ OwnW 3 w.heap.size w' (.slice ad i c) (trL l s) ∧ Below w.heap.size w w' := by
  obtain ⟨a, b, off, c, rfl, hlen, hix, hc, hb⟩ := hv.view Tryz.prog 22 3 Tryz.underlying22 intElem
  obtain ⟨V, hV⟩ : ∃ V, V = (w.alloc (.cells #[.int .i64 g, .slice a l.length c] 27)).alloc (.cells #[.int .i64 0, .slice none 0 0] 27) := ⟨_, rfl⟩
  have B : Below w.heap.size w V := by rw [hV]; exact bl2 _ _ _
  have K1 : Blk V w.heap.size 27 #[.int .i64 g, .slice a l.length c] := by rw [hV]; exact (Blk.new _ _ _).alloc _
  have K2 : Blk V (w.heap.size + 1) 27 #[.int .i64 0, .slice none 0 0] := by rw [hV]; have := Blk.new (w.alloc (.cells #[.int .i64 g, .slice a l.length c] 27)) 27 #[.int .i64 0, .slice none 0 0]; simpa using this
  have HV := Lib.hid hV
  have HC := Lib.hid hc
  have HIX := Lib.hid hix
  have HM := Lib.hid hm
  have z1 := K1.lt
  have z2 := K2.lt
  have hgl : l.length ≤ 1048576 := by omega
  clear hV hc hix hm
  go_enter Tryz.func227, Tryz.ntmps227
  go_wp2_with fail
  rw [HV.out.symm]
  go_loopw [5, 11] (fun ov iv wr => ∃ (j : Nat) (p : Option Addr) (r m : Nat), j ≤ l.length ∧ iv = .int .i64 j ∧ ov = .slice p r m ∧ OwnI 3 V.heap.size wr (.slice p r m) ((l.take j).map fun t => iand s t) ∧ Below V.heap.size V wr) (fun _ iv _ => l.length - (intOf iv).toNat)
  case atStart => exact ⟨0, _, _, _, Nat.zero_le _, rfl, rfl, OwnI.nil _ _ _, Below.refl _ _⟩
  case round =>
    obtain ⟨j, p, r, m, hj, rfl, rfl, own, Bw⟩ := hrel
    have HOWN := Lib.hid own
    have zw := Bw.size
    clear own
    by_cases hlt : j < l.length
    · have hlt2 : (j : Int) < (l.length : Int) := by omega
      have ck := cells_below HC.out hb (B.after Bw B.size) (Nat.le_refl _) j hlt
      have ik := fun W => HIX.out W j hlt
      have hx := HM.out _ (List.getElem_mem hlt)
      have htk : (l.take (j + 1)).map (fun t => iand s t) = (l.take j).map (fun t => iand s t) ++ [iand s l[j]] := by rw [List.take_succ_eq_append_getElem hlt, List.map_append]; rfl
      obtain ⟨x, hxe⟩ : ∃ x, x = l[j] := ⟨_, rfl⟩
      rw [← hxe] at ck hx htk
      have hand := iand_is hs.1 (show s < 4611686018427387904 by omega) hx.1 (show x < 4611686018427387904 by omega)
      have hyb := iand_bd64 s x hs.1 hs.2
      obtain ⟨y, hy⟩ : ∃ y, y = iand s x := ⟨_, rfl⟩
      rw [← hy] at hand hyb htk
      have HTK := Lib.hid htk
      have hln : ((l.take j).map (fun t => iand s t)).length < 100 := by rw [List.length_map, List.length_take]; omega
      clear hxe hy htk
      go_wp2_with (at_builtin; refine wpList_appendI rfl _ _ _ rfl 3 Tryz.underlying22 intElem V.heap.size _ ((l.take j).map fun t => iand s t) y wr.heap.size rfl rfl (cell_new _ _ _ _ _ rfl) (HOWN.out.alloc _) ⟨by omega, by omega⟩ (by omega) (by simp; omega) ?_; intro v' w6 hown hgr; obtain ⟨av, nv, cv, rfl⟩ := hown.shape3)
      have hrow := HOWN.out.lt
      have B6 : Below V.heap.size V w6 := (Bw.alloc Bw.size (.cells #[.int .i64 y] 3)).grown hgr (by simp; omega) (fun q hq => (hrow q hq).1)
      go_roundw
      case rel => exact ⟨j + 1, av, nv, cv, by omega, by go_num, rfl, by rw [HTK.out]; exact hown, B6⟩
      case measure => simp [intOf]; omega
    · have hlt2 : ¬ (j : Int) < (l.length : Int) := by omega
      have hT : trL l s = gatherL ((l.take j).map fun t => iand s t) := by rw [List.take_of_length_le (by omega)]; rfl
      have hln : ((l.take j).map (fun t => iand s t)).length ≤ 1048576 := by rw [List.length_map, List.length_take]; omega
      have hga := gather_any g _ _ wr HOWN.out.ints hln
      rw [← hT] at hga
      have HGA := Lib.hid hga
      have K1w := K1.keep Bw
      have K2w := K2.keep Bw
      have G := K1w.cell
      clear hT hga
      go_wp2_with fail
      refine HGA.out.mono ?_
      rintro e w3 ⟨p3, i3, q3, rfl, o3, b3⟩
      have K2f := K2w.keep b3
      have B3 := (B.after Bw B.size).after b3 (B.after Bw B.size).size
      have z3 := K2f.lt
      have G2 := K2f.cell
      have F2 := K2f.frozen
      clear G
      go_wp2
      refine post_named ?_
      intro Wf hWf
      have Kf : Blk Wf (w.heap.size + 1) 27 #[.int .i64 g, .slice p3 i3 q3] := by
        rw [hWf]
        have := (K2f.set 0 (.int .i64 g)).set 1 (.slice p3 i3 q3)
        simpa using this
      have Bf : Below w.heap.size w Wf := by rw [hWf]; exact Below.setCell (Below.setCell B3 (by first | omega | (simp; done) | (simp; omega)) _) (by first | omega | (simp; done) | (simp; omega)) _
      have gf : GrownIn w3 Wf (fun k => k = w.heap.size + 1) := by
        rw [hWf]
        exact (GrownIn.of_row (grown_setCell w3 ⟨w.heap.size + 1, 0, none⟩ _) (fun k hk => (Option.some.inj hk).symm)).trans (GrownIn.of_row (grown_setCell _ ⟨w.heap.size + 1, 1, none⟩ _) (fun k hk => (Option.some.inj hk).symm))
      have hl3 := o3.lt
      have of := o3.growIn gf (fun k hk e => by have := (hl3 k hk).1; omega)
      have Gf := Kf.cell
      clear hWf G2 F2
      exact bodyPost_ret (v := .agg #[.int .i64 g, .slice p3 i3 q3]) (by simp [results, Tryz.results227, go_sem, Gf]) rfl ⟨_, _, _, rfl, of.mono (by omega), Bf⟩

set_option maxHeartbeats 1000000 in
set_option maxRecDepth 100000 in
theorem tracesOfI_any (w : World) (N : Nat) (v : Value) (l : List Int) (hv : Ints w v l) (hf : isFamB (N : Int) l = true) (s : Int) (hs : isSet N s = true) :
    Calls Tryz.prog 261 #[.agg #[.int .i64 (N : Int), v], .int .i64 s] w fun e w' => ∃ ad i c, e = .returned (.tuple #[.agg #[.int .i64 (N : Int), .slice ad i c], .bool true]) ∧ OwnW 3 w.heap.size w' (.slice ad i c) (trL l s) ∧ Below w.heap.size w w' := by
  have hm := fam_mem hf
  have hl := fam_len hf
  obtain ⟨h0, h6, hq1, hq2⟩ := famOk hf
  have hN : N ≤ 6 := by omega
  have hs2 := isSet_true.1 hs
  have hp := two_pow N 6 hN
  have hp1 := hp.1
  simp at hp1
  obtain ⟨a, c, rfl⟩ := hv.shape
  obtain ⟨V, hV⟩ : ∃ V, V = (w.alloc (.cells #[.int .i64 (N : Int), .slice a l.length c] 27)).alloc (.cells #[.int .i64 0, .slice none 0 0] 27) := ⟨_, rfl⟩
  have B : Below w.heap.size w V := by rw [hV]; exact bl2 _ _ _
  have K1 : Blk V w.heap.size 27 #[.int .i64 (N : Int), .slice a l.length c] := by rw [hV]; exact (Blk.new _ _ _).alloc _
  have K2 : Blk V (w.heap.size + 1) 27 #[.int .i64 0, .slice none 0 0] := by rw [hV]; have := Blk.new (w.alloc (.cells #[.int .i64 (N : Int), .slice a l.length c] 27)) 27 #[.int .i64 0, .slice none 0 0]; simpa using this
  have hfm : ∀ W, W = V → Calls Tryz.prog 90 #[.agg #[.int .i64 (N : Int), .slice a l.length c]] W fun e w' => e = .returned (.bool true) ∧ Below W.heap.size W w' := fun W h => by
    rw [h]
    have := isFamI_any (N : Int) l _ V (hv.below B (Nat.le_refl _))
    rw [hf] at this
    exact this
  have hso := fun W => isSetOf_any N s W (by omega)
  simp only [hs] at hso
  have htr := fun (W : World) (h : Ints W (.slice a l.length c) l) => tracesI_any W (N : Int) _ l h hm hl s ⟨hs2.1, by omega⟩
  have HV := Lib.hid hV
  have HFM := Lib.hid hfm
  have HSO := Lib.hid hso
  have HTR := Lib.hid htr
  clear hV hfm hso htr hf hs hs2 hm hq1 hq2 hp hp1
  go_enter Tryz.func261, Tryz.ntmps261
  go_wp2_with fail
  refine (HFM.out _ HV.out.symm).mono ?_
  rintro e w1 ⟨rfl, b1⟩
  rw [HV.out.symm] at b1
  have B1 := B.after b1 B.size
  have K1' := K1.keep b1
  have K2' := K2.keep b1
  have G1 := K1'.cell
  go_wp2_with (go_at_call 229; refine (HSO.out _).mono ?_; rintro e w' ⟨rfl, rfl⟩)
  refine (HTR.out w1 (hv.below B1 (Nat.le_refl _))).mono ?_
  rintro e w3 ⟨p3, i3, q3, rfl, o3, b3⟩
  have K2f := K2'.keep b3
  have B3 := B1.after b3 B1.size
  have z2 := K2'.lt
  have z3 := K2f.lt
  have G2 := K2f.cell
  have F2 := K2f.frozen
  clear G1
  go_wp2
  refine post_named ?_
  intro Wf hWf
  have Kf : Blk Wf (w.heap.size + 1) 27 #[.int .i64 (N : Int), .slice p3 i3 q3] := by
    rw [hWf]
    have := (K2f.set 0 (.int .i64 (N : Int))).set 1 (.slice p3 i3 q3)
    simpa using this
  have Bf : Below w.heap.size w Wf := by rw [hWf]; exact Below.setCell (Below.setCell B3 (by first | omega | (simp; done) | (simp; omega)) _) (by first | omega | (simp; done) | (simp; omega)) _
  have gf : GrownIn w3 Wf (fun k => k = w.heap.size + 1) := by
    rw [hWf]
    exact (GrownIn.of_row (grown_setCell w3 ⟨w.heap.size + 1, 0, none⟩ _) (fun k hk => (Option.some.inj hk).symm)).trans (GrownIn.of_row (grown_setCell _ ⟨w.heap.size + 1, 1, none⟩ _) (fun k hk => (Option.some.inj hk).symm))
  have hl3 := o3.lt
  have of := o3.growIn gf (fun k hk e => by have := (hl3 k hk).1; omega)
  have Gf := Kf.cell
  clear hWf G2 F2
  exact bodyPost_ret (v := .tuple #[.agg #[.int .i64 (N : Int), .slice p3 i3 q3], .bool true]) (by simp [results, Tryz.results261, go_sem, Gf]) rfl ⟨_, _, _, rfl, of.mono (by omega), Bf⟩

set_option maxHeartbeats 1000000 in
set_option maxRecDepth 100000 in
theorem isShatI_any (w : World) (N : Nat) (v : Value) (l : List Int) (hv : Ints w v l) (hf : isFamB (N : Int) l = true) (s : Nat) (hs : s < 2 ^ N) :
    Calls Tryz.prog 149 #[.agg #[.int .i64 (N : Int), v], .int .i64 (s : Int)] w fun e w' => e = .returned (.bool (shB l s)) ∧ Below w.heap.size w w' := by
  obtain ⟨h0, h6, hq1, hq2⟩ := famOk hf
  have hN : N ≤ 6 := by omega
  have h64 : (2 : Nat) ^ N ≤ 2 ^ 6 := Nat.pow_le_pow_right (by decide) hN
  have hpe : ((2 : Int) ^ N) = ((2 ^ N : Nat) : Int) := by simp
  have hss : isSet N (s : Int) = true := isSet_true.2 ⟨by omega, by rw [hpe]; omega⟩
  obtain ⟨a, c, rfl⟩ := hv.shape
  have htr := tracesOfI_any (w.alloc (.cells #[.int .i64 (N : Int), .slice a l.length c] 27)) N _ l (hv.alloc _) hf (s : Int) hss
  have hpg := pop_g N (by omega) s hs
  have hx : shB l s = ((trL l (s : Int)).length == 2 ^ pop s) := rfl
  have HSZ := Lib.hid (fun W => sizeOf_any s W (by omega))
  obtain ⟨T, hT⟩ : ∃ T, T = trL l (s : Int) := ⟨_, rfl⟩
  rw [← hT] at htr hx
  obtain ⟨p, hp⟩ : ∃ p, p = pop s := ⟨_, rfl⟩
  rw [← hp] at hpg hx
  simp only [← hp] at HSZ
  have hpp := two_pow p 6 (by omega)
  have hp1 := hpp.1
  have hp2 := hpp.2
  simp at hp1
  have hbq : ((T.length : Int) == (2 : Int) ^ p) = (T.length == 2 ^ p) := by
    have e : ((2 : Int) ^ p) = ((2 ^ p : Nat) : Int) := by simp
    rw [e, Bool.eq_iff_iff, beq_iff_eq, beq_iff_eq]; omega
  rw [← hbq] at hx
  have HX := Lib.hid hx
  have HTR := Lib.hid htr
  have hp6 : p ≤ 6 := by omega
  clear hx htr hT hp hpg hss hpe hf hq1 hq2 hbq hpp h64 hs
  go_enter Tryz.func149, Tryz.ntmps149
  go_wp2_with fail
  refine HTR.out.mono ?_
  rintro e w1 ⟨p1, i1, q1, rfl, o1, b1⟩
  have hi1 : i1 = T.length := o1.ints.capLe.1
  subst hi1
  have B1 : Below w.heap.size w w1 := (bl1 _ _).after b1 (by simp)
  go_wp2_with fail
  go_quiet ((go_at_call 170; first | exact q_same2 (HSZ.out _) | exact q_same (HSZ.out _)))
  go_wp2
  go_ret
  exact ⟨ret_bool HX.out.symm, (B1.alloc B1.size _).drewN' _⟩
end Go.Proofs.YtipejodijbjpcaaGreatDoor
end
section
namespace Go.Proofs.YtipejodijbjpcaaGreatDoor
open Go.RowKit Go.G5

theorem shatClosure (w : World) (gb N s : Nat) (l : List Int) (v : Value) (hv : Ints w v l) (hf : isFamB (N : Int) l = true) (d0 : w.cell? ⟨gb, 0, none⟩ = some (.int .i64 (N : Int))) (d1 : w.cell? ⟨gb, 1, none⟩ = some v) (hs : s < 2 ^ N) :
    Calls Tryz.prog 148 #[.int .i64 (s : Int), .pointer (some ⟨gb, 0, none⟩)] w fun e w' => e = .returned (.bool (shB l s)) ∧ Below w.heap.size w w' := by
  obtain ⟨a, c, rfl⟩ := hv.shape
  have hcl := isShatI_any w N _ l hv hf s hs
  obtain ⟨b, hb⟩ : ∃ b, b = shB l s := ⟨_, rfl⟩
  rw [← hb] at hcl ⊢
  have HCL := Lib.hid hcl
  clear hcl hb hf hs
  go_enter Tryz.func148, Tryz.ntmps148
  go_wp2_with fail
  refine HCL.out.mono ?_
  rintro e w1 ⟨rfl, b1⟩
  go_wp2
  go_ret
  exact ⟨rfl, b1⟩
theorem shatClosure_enters : ∀ args w, (callFunc 148 args).run Tryz.prog w = .ok (.enter 148 args) w := enters_of Tryz.func148 (by kernel_rfl) rfl

set_option maxHeartbeats 1000000 in
set_option maxRecDepth 100000 in
theorem shatSetsI_any (w : World) (g : Int) (v : Value) (l : List Int) (hv : Ints w v l) (hf : isFamB g l = true) :
    Calls Tryz.prog 32 #[.agg #[.int .i64 g, v]] w fun e w' => ∃ ad i c, e = .returned (.tuple #[.agg #[.int .i64 g, .slice ad i c], .bool true]) ∧ Ints w' (.slice ad i c) (shaL g l) ∧ Below w.heap.size w w' := by
  obtain ⟨a, c, rfl⟩ := hv.shape
  obtain ⟨h0, h6, hq1, hq2⟩ := famOk hf
  obtain ⟨N, rfl⟩ := Int.eq_ofNat_of_zero_le h0
  have hN : N ≤ 6 := by omega
  have hx : shaL (N : Int) l = chosen (shB l) (2 ^ N) := by unfold shaL; rw [hf, Int.toNat_natCast]; rfl
  have hmf : ∀ (fn : Fn) (first cap : Array Value) (w : World), (Instr.makeFunc fn first cap).run Tryz.prog w = .ok (.func fn first cap) w := fun _ _ _ _ => rfl
  obtain ⟨V, hV⟩ : ∃ V, V = (w.alloc (.cells #[.int .i64 (N : Int), .slice a l.length c] 27)).alloc (.cells #[.int .i64 0, .slice none 0 0] 27) := ⟨_, rfl⟩
  have B : Below w.heap.size w V := by rw [hV]; exact bl2 _ _ _
  have K1 : Blk V w.heap.size 27 #[.int .i64 (N : Int), .slice a l.length c] := by rw [hV]; exact (Blk.new _ _ _).alloc _
  have K2 : Blk V (w.heap.size + 1) 27 #[.int .i64 0, .slice none 0 0] := by rw [hV]; have := Blk.new (w.alloc (.cells #[.int .i64 (N : Int), .slice a l.length c] 27)) 27 #[.int .i64 0, .slice none 0 0]; simpa using this
  have hfm : ∀ W, W = V → Calls Tryz.prog 90 #[.agg #[.int .i64 (N : Int), .slice a l.length c]] W fun e w' => e = .returned (.bool true) ∧ Below W.heap.size W w' := fun W h => by
    rw [h]
    have := isFamI_any (N : Int) l _ V (hv.below B (Nat.le_refl _))
    rw [hf] at this
    exact this
  have hch : ∀ W, Ints W (.slice a l.length c) l → Blk W w.heap.size 27 #[.int .i64 (N : Int), .slice a l.length c] → Calls Tryz.prog 147 #[.int .i64 (N : Int), .func (.func 148) #[] #[.pointer (some ⟨w.heap.size, 0, none⟩)]] W fun e w' =>
      ∃ ad i cp, e = .returned (.agg #[.int .i64 (N : Int), .slice ad i cp]) ∧ OwnI 3 W.heap.size w' (.slice ad i cp) (chosen (shB l) (2 ^ N)) ∧ Below W.heap.size W w' := fun W h1 h2 =>
    choose_any W N hN 148 shatClosure_enters w.heap.size (shB l) (fun s W' hs hB => by
      have k := h2.keep hB
      have k0 := k.cell 0
      have k1 := k.cell 1
      simp at k0 k1
      exact shatClosure W' w.heap.size N s l _ (h1.keep hB) hf k0 k1 hs)
  rw [← hx] at hch
  have HV := Lib.hid hV
  have HFM := Lib.hid hfm
  have HCH := Lib.hid hch
  clear hV hfm hch hf hq1 hq2 hx
  go_enter Tryz.func32, Tryz.ntmps32
  go_wp2_with fail
  refine (HFM.out _ HV.out.symm).mono ?_
  rintro e w1 ⟨rfl, b1⟩
  rw [HV.out.symm] at b1
  have B1 := B.after b1 B.size
  have K1' := K1.keep b1
  have K2' := K2.keep b1
  have G1 := K1'.cell
  go_wp2_with fail
  refine (HCH.out w1 (hv.below B1 (Nat.le_refl _)) K1').mono ?_
  rintro e w3 ⟨p3, i3, q3, rfl, o3, b3⟩
  have K2f := K2'.keep b3
  have B3 := B1.after b3 B1.size
  have z2 := K2'.lt
  have z3 := K2f.lt
  have G2 := K2f.cell
  have F2 := K2f.frozen
  clear G1
  go_wp2
  refine post_named ?_
  intro Wf hWf
  have Kf : Blk Wf (w.heap.size + 1) 27 #[.int .i64 (N : Int), .slice p3 i3 q3] := by
    rw [hWf]
    have := (K2f.set 0 (.int .i64 (N : Int))).set 1 (.slice p3 i3 q3)
    simpa using this
  have Bf : Below w.heap.size w Wf := by rw [hWf]; exact Below.setCell (Below.setCell B3 (by first | omega | (simp; done) | (simp; omega)) _) (by first | omega | (simp; done) | (simp; omega)) _
  have of : OwnI 3 w1.heap.size Wf (.slice p3 i3 q3) (shaL (N : Int) l) := by rw [hWf]; exact (o3.setBelow (by show w.heap.size + 1 < _; omega) _).setBelow (by show w.heap.size + 1 < _; omega) _
  have Gf := Kf.cell
  clear hWf G2 F2
  exact bodyPost_ret (v := .tuple #[.agg #[.int .i64 (N : Int), .slice p3 i3 q3], .bool true]) (by simp [results, Tryz.results32, go_sem, Gf]) rfl ⟨_, _, _, rfl, of.ints, Bf⟩

end Go.Proofs.YtipejodijbjpcaaGreatDoor
end
