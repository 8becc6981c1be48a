/- Families that are closed downward: both programs. -/
import Derived.Test.YtdagcdgbdhecgaaGreatQ34
import Derived.Deep.RegionHeld3
section
namespace Go.Proofs.YtdagcdgbdhecgaaGreat
open Go.RowKit Go.G5

theorem downClosure (w : World) (b : Nat) (g : Int) (l : List Int) (v : Value) (s : Int) (hv : Ints w v l) (hasc : l.Pairwise (· < ·)) (hl : l.length ≤ 1048576)
    (c0 : w.cell? ⟨b, 0, none⟩ = some (.int .i64 g)) (c1 : w.cell? ⟨b, 1, none⟩ = some v) :
    Calls Tryz.prog 63 #[.int .i64 s, .pointer (some ⟨b, 0, none⟩)] w fun e w' => e = .returned (.bool (!has l s)) ∧ Below w.heap.size w w' := by
  obtain ⟨a, c, rfl⟩ := hv.shape
  have hcl := hasSet_any g l _ s w hv hasc hl
  cases hh : has l s with
  | false =>
    rw [hh] at hcl
    go_enter Tryz.func63, Tryz.ntmps63
    go_wp2_with (go_at_call 64; refine hcl.mono ?_; rintro e w' ⟨rfl, hb⟩)
    go_ret
    exact ⟨rfl, hb⟩
  | true =>
    rw [hh] at hcl
    go_enter Tryz.func63, Tryz.ntmps63
    go_wp2_with (go_at_call 64; refine hcl.mono ?_; rintro e w' ⟨rfl, hb⟩)
    go_ret
    exact ⟨rfl, hb⟩
theorem downClosure_enters : ∀ args w, (callFunc 63 args).run Tryz.prog w = .ok (.enter 63 args) w := enters_of Tryz.func63 (by kernel_rfl) rfl

set_option maxHeartbeats 2000000 in
set_option maxRecDepth 100000 in
theorem isDownI_any (g : Int) (l : List Int) (v : Value) (w : World) (hv : Ints w v l) (hl : l.length ≤ 1048576) :
    Calls Tryz.prog 34 #[.agg #[.int .i64 g, v]] w fun e w' => e = .returned (.bool (downB g l)) ∧ Below w.heap.size w w' := by
  obtain ⟨a, c, rfl⟩ := hv.shape
  have hmf : ∀ (fn : Fn) (first cap : Array Value) (w : World), (Instr.makeFunc fn first cap).run Tryz.prog w = .ok (.func fn first cap) w := fun _ _ _ _ => rfl
  go_enter Tryz.func34, Tryz.ntmps34
  go_wp2_with fail
  refine calls_named ?_
  intro V hV
  have B : Below w.heap.size w V := by rw [hV]; exact bl1 _ _
  have K1 : Blk V w.heap.size 49 #[.int .i64 g, .slice a l.length c] := by rw [hV]; exact (Blk.new _ _ _)
  clear hV
  refine (shadowI_c _ g _ l (hv.below B (Nat.le_refl _)) hl).mono ?_
  rintro e w1 ⟨p1, i1, q1, rfl, o1, hb1⟩
  have K1 := K1.keep hb1
  have B1 := B.after hb1 B.size
  have hv1 := hv.below B1 (Nat.le_refl _)
  have hd := down_is g l
  have y1 := B1.size
  clear hb1 B
  cases hf : isFamB g l with
  | false =>
    have hx : downB g l = false := by rw [← hd, hf]; rfl
    have HX := Lib.hid hx
    clear hx hd
    go_wp2
    go_ret
    exact ⟨by rw [HX.out]; rfl, (by repeat (first | exact Below.refl _ _ | (with_reducible refine Below.setCell ?_ (by first | omega | (simp; done) | (simp; omega)) _) | (with_reducible refine Below.alloc ?_ (by first | omega | (simp; done) | (simp; omega)) _) | (with_reducible refine Below.drewN' ?_ _) | (with_reducible refine Below.drew ?_) | (with_reducible assumption) | refine Below.trans ?_ (Below.mono (by assumption) (by first | omega | (simp; done) | (simp; omega)))))⟩
  | true =>
    rw [hf, Bool.true_and] at hd
    have hasc := (famOk hf).2.2.2
    have hsl := shL_len g l
    obtain ⟨N, hN⟩ : ∃ N, N = shN g l := ⟨_, rfl⟩
    obtain ⟨L, hL⟩ : ∃ L, L = shL g l := ⟨_, rfl⟩
    rw [← hN]
    rw [← hL] at o1 hd hsl
    have hcf : ∀ W, Ints W (.slice p1 i1 q1) L → Ints W (.slice a l.length c) l → W.cell? ⟨w.heap.size, 0, none⟩ = some (.int .i64 g) → W.cell? ⟨w.heap.size, 1, none⟩ = some (.slice a l.length c) →
        Calls Tryz.prog 62 #[.slice p1 i1 q1, .func (.func 63) #[] #[.pointer (some ⟨w.heap.size, 0, none⟩)]] W fun e w' => e = .returned (.bool (L.any fun s => !has l s)) ∧ Below W.heap.size W w' :=
      fun W hW hW2 h0 h1 => containsFunc_any L _ W hW 63 downClosure_enters w.heap.size (fun s => !has l s) (fun t W' _ hB => downClosure W' w.heap.size g l _ t (hW2.keep hB) hasc hl (keep hB h0) (keep hB h1))
    obtain ⟨bb, hbb⟩ : ∃ bb, bb = L.any fun s => !has l s := ⟨_, rfl⟩
    rw [← hbb] at hd hcf
    have HD := Lib.hid hd
    have HCF := Lib.hid hcf
    have z1 := K1.lt
    have K1a := K1.alloc (.cells #[.int .i64 N, .slice p1 i1 q1] 49)
    have g0 : (w1.alloc (.cells #[.int .i64 N, .slice p1 i1 q1] 49)).cell? ⟨w.heap.size, 0, none⟩ = some (.int .i64 g) := K1a.cell 0
    have g1 : (w1.alloc (.cells #[.int .i64 N, .slice p1 i1 q1] 49)).cell? ⟨w.heap.size, 1, none⟩ = some (.slice a l.length c) := K1a.cell 1
    have HG0 := Lib.hid g0
    have HG1 := Lib.hid g1
    clear hd hcf hbb hL hN hf hasc K1a g0 g1
    go_wp2_with (go_at_call 62; refine (HCF.out _ (o1.alloc _).ints (hv1.alloc _) HG0.out HG1.out).mono ?_; rintro e w3 ⟨rfl, hb3⟩)
    go_ret
    exact ⟨ret_bool HD.out, (by repeat (first | exact Below.refl _ _ | (with_reducible refine Below.setCell ?_ (by first | omega | (simp; done) | (simp; omega)) _) | (with_reducible refine Below.alloc ?_ (by first | omega | (simp; done) | (simp; omega)) _) | (with_reducible refine Below.drewN' ?_ _) | (with_reducible refine Below.drew ?_) | (with_reducible assumption) | refine Below.trans ?_ (Below.mono (by assumption) (by first | omega | (simp; done) | (simp; omega)))))⟩

theorem chosen_iff (P : Nat → Bool) (n : Nat) (x : Int) : x ∈ chosen P n ↔ ∃ e : Nat, e < n ∧ P e = true ∧ x = (e : Int) := by
  unfold chosen
  simp only [List.mem_map, List.mem_filter, List.mem_range]
  constructor
  · rintro ⟨e, ⟨h1, h2⟩, rfl⟩; exact ⟨e, h1, h2, rfl⟩
  · rintro ⟨e, h1, h2, rfl⟩; exact ⟨e, ⟨h1, h2⟩, rfl⟩
theorem downOne_is (l : List Int) (s n : Nat) (hn : n ≤ 6) (hs : s < 2 ^ n) : downOne l (s : Int) = true ↔ ∀ e, e < n → nbit s e = true → has l ((s : Int) - 2 ^ e) = true := by
  have hel : elL (s : Int) = chosen (nbit s) n := by
    unfold elL
    rw [show ((s : Int)).toNat = s by omega]
    exact famOf_same s 6 n (Nat.lt_of_lt_of_le hs (Nat.pow_le_pow_right (by decide) hn)) hs
  unfold downOne
  rw [hel, List.all_eq_true]
  constructor
  · intro h e he hb
    have := h (e : Int) ((chosen_iff _ _ _).2 ⟨e, he, hb, rfl⟩)
    simpa using this
  · intro h x hx
    obtain ⟨e, he, hb, rfl⟩ := (chosen_iff _ _ _).1 hx
    have := h e he hb
    simpa using this

set_option maxHeartbeats 2000000 in
set_option maxRecDepth 100000 in
theorem isDownS_any (g : Int) (l : List Int) (v : Value) (w : World) (hv : Ints w v l) (hl : l.length ≤ 1048576) :
    Calls Tryz.prog 39 #[.agg #[.int .i64 g, v]] w fun e w' => e = .returned (.bool (downB g l)) ∧ Below w.heap.size w w' := by
  have hv0 := hv
  obtain ⟨a, b, off, c, rfl, hlen, hix, hc, hb⟩ := hv.view Tryz.prog 30 3 Tryz.underlying30 intElem
  have K0 := Blk.new w 49 #[.int .i64 g, .slice a l.length c]
  cases hf : isFamB g l with
  | false =>
    have hx : downB g l = false := by unfold downB; rw [hf]; rfl
    have HX := Lib.hid hx
    have HF := Lib.hid hf
    clear hx hf
    go_enter Tryz.func39, Tryz.ntmps39
    go_wp2_with fail
    go_loopw [3] (fun i wr => i = .int .i64 0 ∧ Below w.heap.size w wr ∧ Blk wr w.heap.size 49 #[.int .i64 g, .slice a l.length c]) (fun _ _ => 0)
    case atStart => exact ⟨rfl, bl1 _ _, K0⟩
    case round =>
      obtain ⟨rfl, B, K1⟩ := hrel
      have G1 := K1.cell
      go_wp2_with fail
      refine (isFamS_any g l _ _ (hv0.below B (Nat.le_refl _))).mono ?_
      rintro e w2 ⟨rfl, hb2⟩
      rw [HF.out]
      have K1 := K1.keep hb2
      have B2 := B.after hb2 B.size
      clear G1
      have G1 := K1.cell
      go_wp2_with fail
      refine (isFamS_any g l _ _ (hv0.below B2 (Nat.le_refl _))).mono ?_
      rintro e w3 ⟨rfl, hb3⟩
      rw [HF.out]
      go_wp2
      go_ret
      exact ⟨ret_bool HX.out.symm, B2.after hb3 B2.size⟩
  | true =>
    have hx : downB g l = l.all (downOne l) := by unfold downB; rw [hf]; rfl
    obtain ⟨h0, h6, hm⟩ := famOk64 hf
    obtain ⟨_, _, hmn, _⟩ := famOk hf
    obtain ⟨n, rfl⟩ := Int.eq_ofNat_of_zero_le h0
    have hn6 : n ≤ 6 := by omega
    have hl64 := fam_len64 hf
    have HX := Lib.hid hx
    have HF := Lib.hid hf
    have HM := Lib.hid hm
    have HMN := Lib.hid hmn
    clear hx hf hm hmn
    go_enter Tryz.func39, Tryz.ntmps39
    go_wp2_with fail
    go_loopw [3] (fun i wr => ∃ k : Nat, k ≤ l.length ∧ i = .int .i64 k ∧ (l.take k).all (downOne l) = true ∧ Below w.heap.size w wr ∧ Blk wr w.heap.size 49 #[.int .i64 n, .slice a l.length c]) (fun i _ => l.length - (intOf i).toNat)
    case atStart => exact ⟨0, Nat.zero_le _, rfl, by simp, bl1 _ _, K0⟩
    case round =>
      obtain ⟨k, hk, rfl, hall, B, K1⟩ := hrel
      obtain ⟨wo, rfl⟩ : ∃ wo : World, wo = wr := ⟨_, rfl⟩
      have HALL := Lib.hid hall
      clear hall K0
      have G1 := K1.cell
      go_wp2_with fail
      refine (isFamS_any n l _ _ (hv0.below B (Nat.le_refl _))).mono ?_
      rintro e w2 ⟨rfl, hb2⟩
      rw [HF.out]
      have K1 := K1.keep hb2
      have B2 := B.after hb2 B.size
      clear G1 hb2 B
      by_cases hlt : k < l.length
      · have hmk := HM.out k hlt
        have hmn2 := HMN.out _ (List.getElem_mem hlt)
        have htk := all_take_succ (downOne l) l k hlt
        obtain ⟨t, ht⟩ : ∃ t : Nat, l[k] = (t : Int) := ⟨l[k].toNat, by omega⟩
        have htn : t < 2 ^ n := by
          rw [ht] at hmn2
          have e2 : (n : Int).toNat = n := by omega
          rw [e2] at hmn2
          exact_mod_cast hmn2.2
        have hdo := downOne_is l t n hn6 htn
        have hcell := fun W (hB : Below w.heap.size w W) => cells_below hc hb hB (Nat.le_refl _) k hlt
        rw [ht] at htk hmk
        simp only [ht] at hcell
        have HDO := Lib.hid hdo
        have HTK := Lib.hid htk
        have HC := Lib.hid hcell
        have ht1 := hmk.2
        have HT := Lib.hid ht
        clear htk hdo hmn2 hcell ht hmk htn
        have hixk := fun W => hix W k hlt
        have G1 := K1.cell
        go_wp2_with fail
        go_loopw [4] (fun i wr => ∃ e : Nat, e ≤ n ∧ i = .int .i64 e ∧ (∀ d, d < e → nbit t d = true → has l ((t : Int) - 2 ^ d) = true) ∧ Below w.heap.size w wr ∧ Blk wr w.heap.size 49 #[.int .i64 n, .slice a l.length c]) (fun i _ => n - (intOf i).toNat)
        case atStart => exact ⟨0, Nat.zero_le _, rfl, by simp, B2, K1⟩
        case round =>
          obtain ⟨j, hj, rfl, hdn, Bi, Ki⟩ := hrel
          obtain ⟨wi, rfl⟩ : ∃ wi : World, wi = wr := ⟨_, rfl⟩
          have HDN := Lib.hid hdn
          clear hdn G1 K1 B2
          have G1 := Ki.cell
          have hck := HC.out wi Bi
          have hvi := hv0.below Bi (Nat.le_refl _)
          by_cases hje : j < n
          · have hbit := bit_is (t : Int) j (by omega) (by omega)
            have hnb := nbit_is t j
            obtain ⟨y, hy⟩ : ∃ y, y = ibit (t : Int) j := ⟨_, rfl⟩
            rw [← hy] at hbit hnb
            have hp := pow2_bd (j : Int) (by omega)
            have hto : (2 : Int) ^ (j : Int).toNat = 2 ^ j := by simp
            rw [hto] at hp
            have hp1 := hp.1
            have hp2 := hp.2
            clear hp hto hy
            have hj6 : j < 6 := by omega
            cases hbb : nbit t j with
            | false =>
              have hy1 : (y == 1) = false := by rw [hnb, hbb]
              have HBB := Lib.hid hbb
              clear hbb hnb
              go_wp2_with fail
              go_quiet (fail)
              go_wp2
              go_roundw
              case rel => exact ⟨j + 1, by omega, by go_num, fun d hd hbd => by
                  by_cases h : d < j
                  · exact HDN.out d h hbd
                  · have : d = j := by omega
                    subst this; rw [HBB.out] at hbd; exact Bool.noConfusion hbd, Bi.drewN' _, Ki.drewN _⟩
              case measure => simp [intOf]; omega
            | true =>
              have hy1 : (y == 1) = true := by rw [hnb, hbb]
              have HBB := Lib.hid hbb
              clear hbb hnb
              have hwr : IntKind.i64.wrap ((t : Int) - 2 ^ j) = (t : Int) - 2 ^ j := by rw [IntKind.wrap_i64]; omega
              cases hh : has l ((t : Int) - 2 ^ j) with
              | false =>
                go_wp2_with fail
                go_quiet ((go_at_call 68; first | exact q_bool2 (l10Has_any l _ _ _ (hvi.drewN _)) hh | exact q_bool (l10Has_any l _ _ _ (hvi.drewN _)) hh))
                go_wp2
                go_ret
                refine ⟨ret_bool ?_, Bi.drewN' _⟩
                rw [HX.out]
                have : downOne l l[k] = false := by
                  rw [HT.out]
                  cases hd : downOne l (t : Int) with
                  | false => rfl
                  | true => have := HDO.out.1 hd j hje HBB.out; rw [hh] at this; cases this
                exact (all_false_at _ _ _ hlt this).symm
              | true =>
                have HH := Lib.hid hh
                go_wp2_with fail
                go_quiet ((go_at_call 68; first | exact q_bool2 (l10Has_any l _ _ _ (hvi.drewN _)) hh | exact q_bool (l10Has_any l _ _ _ (hvi.drewN _)) hh))
                clear hh
                go_wp2
                go_roundw
                case rel => exact ⟨j + 1, by omega, by go_num, fun d hd hbd => by
                    by_cases h : d < j
                    · exact HDN.out d h hbd
                    · have : d = j := by omega
                      subst this; exact HH.out, Bi.drewN' _, Ki.drewN _⟩
                case measure => simp [intOf]; omega
          · have hfin : downOne l (t : Int) = true := HDO.out.2 (fun e he hb => HDN.out e (by omega) hb)
            have HFIN := Lib.hid hfin
            clear hfin
            go_wp2
            go_roundw
            case rel => exact ⟨k + 1, by omega, by go_num, by rw [HTK.out, HALL.out, HFIN.out]; rfl, Bi, Ki⟩
            case measure => simp [intOf]; omega
      · have hal : l.all (downOne l) = true := by rw [← all_of_take (downOne l) l k (by omega), HALL.out]
        have HAL := Lib.hid hal
        clear hal
        have G1 := K1.cell
        go_wp2_with fail
        refine (isFamS_any n l _ _ (hv0.below B2 (Nat.le_refl _))).mono ?_
        rintro e w3 ⟨rfl, hb3⟩
        rw [HF.out]
        go_wp2
        go_ret
        exact ⟨ret_bool (by rw [HX.out, HAL.out]), B2.after hb3 B2.size⟩
end Go.Proofs.YtdagcdgbdhecgaaGreat
end
