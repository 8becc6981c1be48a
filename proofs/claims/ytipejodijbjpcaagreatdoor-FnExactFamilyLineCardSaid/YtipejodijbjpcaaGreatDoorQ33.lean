/- Families that are closed downward: both programs. Families of bases: the first program. Families of bases: the first program's test. -/
import Derived.Test.YtipejodijbjpcaaGreatDoorQ32
import Derived.Deep.RegionHeld3
section
namespace Go.Proofs.YtipejodijbjpcaaGreatDoor
open Go.RowKit Go.G5

theorem downClosure (w : World) (b : Nat) (g : Int) (l : List Int) (v : Value) (s : Int) (hv : Ints w v l) (hasc : l.Pairwise (· < ·)) (hl : l.length ≤ 1048576)
    (c0 : w.cell? ⟨b, 0, none⟩ = some (.int .i64 g)) (c1 : w.cell? ⟨b, 1, none⟩ = some v) :
    Calls Tryz.prog 235 #[.int .i64 s, .pointer (some ⟨b, 0, none⟩)] w fun e w' => e = .returned (.bool (!has l s)) ∧ Below w.heap.size w w' := by
  obtain ⟨a, c, rfl⟩ := hv.shape
  have hcl := hasSet_any g l _ s w hv hasc hl
  cases hh : has l s with
  | false =>
    rw [hh] at hcl
    go_enter Tryz.func235, Tryz.ntmps235
    go_wp2_with (go_at_call 236; refine hcl.mono ?_; rintro e w' ⟨rfl, hb⟩)
    go_ret
    exact ⟨rfl, hb⟩
  | true =>
    rw [hh] at hcl
    go_enter Tryz.func235, Tryz.ntmps235
    go_wp2_with (go_at_call 236; refine hcl.mono ?_; rintro e w' ⟨rfl, hb⟩)
    go_ret
    exact ⟨rfl, hb⟩
theorem downClosure_enters : ∀ args w, (callFunc 235 args).run Tryz.prog w = .ok (.enter 235 args) w := enters_of Tryz.func235 (by kernel_rfl) rfl

set_option maxHeartbeats 2000000 in
set_option maxRecDepth 100000 in
theorem isDownI_any (g : Int) (l : List Int) (v : Value) (w : World) (hv : Ints w v l) (hl : l.length ≤ 1048576) :
    Calls Tryz.prog 104 #[.agg #[.int .i64 g, v]] w fun e w' => e = .returned (.bool (downB g l)) ∧ Below w.heap.size w w' := by
  obtain ⟨a, c, rfl⟩ := hv.shape
  have hmf : ∀ (fn : Fn) (first cap : Array Value) (w : World), (Instr.makeFunc fn first cap).run Tryz.prog w = .ok (.func fn first cap) w := fun _ _ _ _ => rfl
  go_enter Tryz.func104, Tryz.ntmps104
  go_wp2_with fail
  refine calls_named ?_
  intro V hV
  have B : Below w.heap.size w V := by rw [hV]; exact bl1 _ _
  have K1 : Blk V w.heap.size 27 #[.int .i64 g, .slice a l.length c] := by rw [hV]; exact (Blk.new _ _ _)
  clear hV
  refine (shadowI_c _ g _ l (hv.below B (Nat.le_refl _)) hl).mono ?_
  rintro e w1 ⟨p1, i1, q1, rfl, o1, hb1⟩
  have K1 := K1.keep hb1
  have B1 := B.after hb1 B.size
  have hv1 := hv.below B1 (Nat.le_refl _)
  have hd := down_is g l
  have y1 := B1.size
  clear hb1 B
  cases hf : isFamB g l with
  | false =>
    have hx : downB g l = false := by rw [← hd, hf]; rfl
    have HX := Lib.hid hx
    clear hx hd
    go_wp2
    go_ret
    exact ⟨by rw [HX.out]; rfl, (by repeat (first | exact Below.refl _ _ | (with_reducible refine Below.setCell ?_ (by first | omega | (simp; done) | (simp; omega)) _) | (with_reducible refine Below.alloc ?_ (by first | omega | (simp; done) | (simp; omega)) _) | (with_reducible refine Below.drewN' ?_ _) | (with_reducible refine Below.drew ?_) | (with_reducible assumption) | refine Below.trans ?_ (Below.mono (by assumption) (by first | omega | (simp; done) | (simp; omega)))))⟩
  | true =>
    rw [hf, Bool.true_and] at hd
    have hasc := (famOk hf).2.2.2
    have hsl := shL_len g l
    obtain ⟨N, hN⟩ : ∃ N, N = shN g l := ⟨_, rfl⟩
    obtain ⟨L, hL⟩ : ∃ L, L = shL g l := ⟨_, rfl⟩
    rw [← hN]
    rw [← hL] at o1 hd hsl
    have hcf : ∀ W, Ints W (.slice p1 i1 q1) L → Ints W (.slice a l.length c) l → W.cell? ⟨w.heap.size, 0, none⟩ = some (.int .i64 g) → W.cell? ⟨w.heap.size, 1, none⟩ = some (.slice a l.length c) →
        Calls Tryz.prog 234 #[.slice p1 i1 q1, .func (.func 235) #[] #[.pointer (some ⟨w.heap.size, 0, none⟩)]] W fun e w' => e = .returned (.bool (L.any fun s => !has l s)) ∧ Below W.heap.size W w' :=
      fun W hW hW2 h0 h1 => containsFunc_any L _ W hW 235 downClosure_enters w.heap.size (fun s => !has l s) (fun t W' _ hB => downClosure W' w.heap.size g l _ t (hW2.keep hB) hasc hl (keep hB h0) (keep hB h1))
    obtain ⟨bb, hbb⟩ : ∃ bb, bb = L.any fun s => !has l s := ⟨_, rfl⟩
    rw [← hbb] at hd hcf
    have HD := Lib.hid hd
    have HCF := Lib.hid hcf
    have z1 := K1.lt
    have K1a := K1.alloc (.cells #[.int .i64 N, .slice p1 i1 q1] 27)
    have g0 : (w1.alloc (.cells #[.int .i64 N, .slice p1 i1 q1] 27)).cell? ⟨w.heap.size, 0, none⟩ = some (.int .i64 g) := K1a.cell 0
    have g1 : (w1.alloc (.cells #[.int .i64 N, .slice p1 i1 q1] 27)).cell? ⟨w.heap.size, 1, none⟩ = some (.slice a l.length c) := K1a.cell 1
    have HG0 := Lib.hid g0
    have HG1 := Lib.hid g1
    clear hd hcf hbb hL hN hf hasc K1a g0 g1
    go_wp2_with (go_at_call 234; refine (HCF.out _ (o1.alloc _).ints (hv1.alloc _) HG0.out HG1.out).mono ?_; rintro e w3 ⟨rfl, hb3⟩)
    go_ret
    exact ⟨ret_bool HD.out, (by repeat (first | exact Below.refl _ _ | (with_reducible refine Below.setCell ?_ (by first | omega | (simp; done) | (simp; omega)) _) | (with_reducible refine Below.alloc ?_ (by first | omega | (simp; done) | (simp; omega)) _) | (with_reducible refine Below.drewN' ?_ _) | (with_reducible refine Below.drew ?_) | (with_reducible assumption) | refine Below.trans ?_ (Below.mono (by assumption) (by first | omega | (simp; done) | (simp; omega)))))⟩

theorem chosen_iff (P : Nat → Bool) (n : Nat) (x : Int) : x ∈ chosen P n ↔ ∃ e : Nat, e < n ∧ P e = true ∧ x = (e : Int) := by
  unfold chosen
  simp only [List.mem_map, List.mem_filter, List.mem_range]
  constructor
  · rintro ⟨e, ⟨h1, h2⟩, rfl⟩; exact ⟨e, h1, h2, rfl⟩
  · rintro ⟨e, h1, h2, rfl⟩; exact ⟨e, ⟨h1, h2⟩, rfl⟩
theorem downOne_is (l : List Int) (s n : Nat) (hn : n ≤ 6) (hs : s < 2 ^ n) : downOne l (s : Int) = true ↔ ∀ e, e < n → nbit s e = true → has l ((s : Int) - 2 ^ e) = true := by
  have hel : elL (s : Int) = chosen (nbit s) n := by
    unfold elL
    rw [show ((s : Int)).toNat = s by omega]
    exact famOf_same s 6 n (Nat.lt_of_lt_of_le hs (Nat.pow_le_pow_right (by decide) hn)) hs
  unfold downOne
  rw [hel, List.all_eq_true]
  constructor
  · intro h e he hb
    have := h (e : Int) ((chosen_iff _ _ _).2 ⟨e, he, hb, rfl⟩)
    simpa using this
  · intro h x hx
    obtain ⟨e, he, hb, rfl⟩ := (chosen_iff _ _ _).1 hx
    have := h e he hb
    simpa using this

set_option maxHeartbeats 2000000 in
set_option maxRecDepth 100000 in
theorem isDownS_any (g : Int) (l : List Int) (v : Value) (w : World) (hv : Ints w v l) (hl : l.length ≤ 1048576) :
    Calls Tryz.prog 87 #[.agg #[.int .i64 g, v]] w fun e w' => e = .returned (.bool (downB g l)) ∧ Below w.heap.size w w' := by
  have hv0 := hv
  obtain ⟨a, b, off, c, rfl, hlen, hix, hc, hb⟩ := hv.view Tryz.prog 22 3 Tryz.underlying22 intElem
  have K0 := Blk.new w 27 #[.int .i64 g, .slice a l.length c]
  cases hf : isFamB g l with
  | false =>
    have hx : downB g l = false := by unfold downB; rw [hf]; rfl
    have HX := Lib.hid hx
    have HF := Lib.hid hf
    clear hx hf
    go_enter Tryz.func87, Tryz.ntmps87
    go_wp2_with fail
    go_loopw [3] (fun i wr => i = .int .i64 0 ∧ Below w.heap.size w wr ∧ Blk wr w.heap.size 27 #[.int .i64 g, .slice a l.length c]) (fun _ _ => 0)
    case atStart => exact ⟨rfl, bl1 _ _, K0⟩
    case round =>
      obtain ⟨rfl, B, K1⟩ := hrel
      have G1 := K1.cell
      go_wp2_with fail
      refine (isFamS_any g l _ _ (hv0.below B (Nat.le_refl _))).mono ?_
      rintro e w2 ⟨rfl, hb2⟩
      rw [HF.out]
      have K1 := K1.keep hb2
      have B2 := B.after hb2 B.size
      clear G1
      have G1 := K1.cell
      go_wp2_with fail
      refine (isFamS_any g l _ _ (hv0.below B2 (Nat.le_refl _))).mono ?_
      rintro e w3 ⟨rfl, hb3⟩
      rw [HF.out]
      go_wp2
      go_ret
      exact ⟨ret_bool HX.out.symm, B2.after hb3 B2.size⟩
  | true =>
    have hx : downB g l = l.all (downOne l) := by unfold downB; rw [hf]; rfl
    obtain ⟨h0, h6, hm⟩ := famOk64 hf
    obtain ⟨_, _, hmn, _⟩ := famOk hf
    obtain ⟨n, rfl⟩ := Int.eq_ofNat_of_zero_le h0
    have hn6 : n ≤ 6 := by omega
    have hl64 := fam_len64 hf
    have HX := Lib.hid hx
    have HF := Lib.hid hf
    have HM := Lib.hid hm
    have HMN := Lib.hid hmn
    clear hx hf hm hmn
    go_enter Tryz.func87, Tryz.ntmps87
    go_wp2_with fail
    go_loopw [3] (fun i wr => ∃ k : Nat, k ≤ l.length ∧ i = .int .i64 k ∧ (l.take k).all (downOne l) = true ∧ Below w.heap.size w wr ∧ Blk wr w.heap.size 27 #[.int .i64 n, .slice a l.length c]) (fun i _ => l.length - (intOf i).toNat)
    case atStart => exact ⟨0, Nat.zero_le _, rfl, by simp, bl1 _ _, K0⟩
    case round =>
      obtain ⟨k, hk, rfl, hall, B, K1⟩ := hrel
      obtain ⟨wo, rfl⟩ : ∃ wo : World, wo = wr := ⟨_, rfl⟩
      have HALL := Lib.hid hall
      clear hall K0
      have G1 := K1.cell
      go_wp2_with fail
      refine (isFamS_any n l _ _ (hv0.below B (Nat.le_refl _))).mono ?_
      rintro e w2 ⟨rfl, hb2⟩
      rw [HF.out]
      have K1 := K1.keep hb2
      have B2 := B.after hb2 B.size
      clear G1 hb2 B
      by_cases hlt : k < l.length
      · have hmk := HM.out k hlt
        have hmn2 := HMN.out _ (List.getElem_mem hlt)
        have htk := all_take_succ (downOne l) l k hlt
        obtain ⟨t, ht⟩ : ∃ t : Nat, l[k] = (t : Int) := ⟨l[k].toNat, by omega⟩
        have htn : t < 2 ^ n := by
          rw [ht] at hmn2
          have e2 : (n : Int).toNat = n := by omega
          rw [e2] at hmn2
          exact_mod_cast hmn2.2
        have hdo := downOne_is l t n hn6 htn
        have hcell := fun W (hB : Below w.heap.size w W) => cells_below hc hb hB (Nat.le_refl _) k hlt
        rw [ht] at htk hmk
        simp only [ht] at hcell
        have HDO := Lib.hid hdo
        have HTK := Lib.hid htk
        have HC := Lib.hid hcell
        have ht1 := hmk.2
        have HT := Lib.hid ht
        clear htk hdo hmn2 hcell ht hmk htn
        have hixk := fun W => hix W k hlt
        have G1 := K1.cell
        go_wp2_with fail
        go_loopw [4] (fun i wr => ∃ e : Nat, e ≤ n ∧ i = .int .i64 e ∧ (∀ d, d < e → nbit t d = true → has l ((t : Int) - 2 ^ d) = true) ∧ Below w.heap.size w wr ∧ Blk wr w.heap.size 27 #[.int .i64 n, .slice a l.length c]) (fun i _ => n - (intOf i).toNat)
        case atStart => exact ⟨0, Nat.zero_le _, rfl, by simp, B2, K1⟩
        case round =>
          obtain ⟨j, hj, rfl, hdn, Bi, Ki⟩ := hrel
          obtain ⟨wi, rfl⟩ : ∃ wi : World, wi = wr := ⟨_, rfl⟩
          have HDN := Lib.hid hdn
          clear hdn G1 K1 B2
          have G1 := Ki.cell
          have hck := HC.out wi Bi
          have hvi := hv0.below Bi (Nat.le_refl _)
          by_cases hje : j < n
          · have hbit := bit_is (t : Int) j (by omega) (by omega)
            have hnb := nbit_is t j
            obtain ⟨y, hy⟩ : ∃ y, y = ibit (t : Int) j := ⟨_, rfl⟩
            rw [← hy] at hbit hnb
            have hp := pow2_bd (j : Int) (by omega)
            have hto : (2 : Int) ^ (j : Int).toNat = 2 ^ j := by simp
            rw [hto] at hp
            have hp1 := hp.1
            have hp2 := hp.2
            clear hp hto hy
            have hj6 : j < 6 := by omega
            cases hbb : nbit t j with
            | false =>
              have hy1 : (y == 1) = false := by rw [hnb, hbb]
              have HBB := Lib.hid hbb
              clear hbb hnb
              go_wp2_with fail
              go_quiet (fail)
              go_wp2
              go_roundw
              case rel => exact ⟨j + 1, by omega, by go_num, fun d hd hbd => by
                  by_cases h : d < j
                  · exact HDN.out d h hbd
                  · have : d = j := by omega
                    subst this; rw [HBB.out] at hbd; exact Bool.noConfusion hbd, Bi.drewN' _, Ki.drewN _⟩
              case measure => simp [intOf]; omega
            | true =>
              have hy1 : (y == 1) = true := by rw [hnb, hbb]
              have HBB := Lib.hid hbb
              clear hbb hnb
              have hwr : IntKind.i64.wrap ((t : Int) - 2 ^ j) = (t : Int) - 2 ^ j := by rw [IntKind.wrap_i64]; omega
              cases hh : has l ((t : Int) - 2 ^ j) with
              | false =>
                go_wp2_with fail
                go_quiet ((go_at_call 195; first | exact q_bool2 (l10Has_any l _ _ _ (hvi.drewN _)) hh | exact q_bool (l10Has_any l _ _ _ (hvi.drewN _)) hh))
                go_wp2
                go_ret
                refine ⟨ret_bool ?_, Bi.drewN' _⟩
                rw [HX.out]
                have : downOne l l[k] = false := by
                  rw [HT.out]
                  cases hd : downOne l (t : Int) with
                  | false => rfl
                  | true => have := HDO.out.1 hd j hje HBB.out; rw [hh] at this; cases this
                exact (all_false_at _ _ _ hlt this).symm
              | true =>
                have HH := Lib.hid hh
                go_wp2_with fail
                go_quiet ((go_at_call 195; first | exact q_bool2 (l10Has_any l _ _ _ (hvi.drewN _)) hh | exact q_bool (l10Has_any l _ _ _ (hvi.drewN _)) hh))
                clear hh
                go_wp2
                go_roundw
                case rel => exact ⟨j + 1, by omega, by go_num, fun d hd hbd => by
                    by_cases h : d < j
                    · exact HDN.out d h hbd
                    · have : d = j := by omega
                      subst this; exact HH.out, Bi.drewN' _, Ki.drewN _⟩
                case measure => simp [intOf]; omega
          · have hfin : downOne l (t : Int) = true := HDO.out.2 (fun e he hb => HDN.out e (by omega) hb)
            have HFIN := Lib.hid hfin
            clear hfin
            go_wp2
            go_roundw
            case rel => exact ⟨k + 1, by omega, by go_num, by rw [HTK.out, HALL.out, HFIN.out]; rfl, Bi, Ki⟩
            case measure => simp [intOf]; omega
      · have hal : l.all (downOne l) = true := by rw [← all_of_take (downOne l) l k (by omega), HALL.out]
        have HAL := Lib.hid hal
        clear hal
        have G1 := K1.cell
        go_wp2_with fail
        refine (isFamS_any n l _ _ (hv0.below B2 (Nat.le_refl _))).mono ?_
        rintro e w3 ⟨rfl, hb3⟩
        rw [HF.out]
        go_wp2
        go_ret
        exact ⟨ret_bool (by rw [HX.out, HAL.out]), B2.after hb3 B2.size⟩
end Go.Proofs.YtipejodijbjpcaaGreatDoor
end
section
namespace Go.Proofs.YtipejodijbjpcaaGreatDoor
open Go.RowKit Go.G5

set_option maxHeartbeats 1000000 in
theorem indexFunc3_any (l : List Int) (v : Value) (w : World) (hv : Ints w v l) (c : FuncId) (he : ∀ args w, (callFunc c args).run Tryz.prog w = .ok (.enter c args) w) (g1 g2 g3 : Nat) (P : Int → Bool)
    (hw : ∀ (t : Int) W', t ∈ l → Below w.heap.size w W' → Calls Tryz.prog c #[.int .i64 t, .pointer (some ⟨g1, 0, none⟩), .pointer (some ⟨g2, 0, none⟩), .pointer (some ⟨g3, 0, none⟩)] W' fun e w2 => e = .returned (.bool (P t)) ∧ Below W'.heap.size W' w2) :
    Calls Tryz.prog 309 #[v, .func (.func c) #[] #[.pointer (some ⟨g1, 0, none⟩), .pointer (some ⟨g2, 0, none⟩), .pointer (some ⟨g3, 0, none⟩)]] w fun e w' => (∃ i : Int, e = .returned (.int .i64 i) ∧ (0 ≤ i ↔ l.any P = true) ∧ -1 ≤ i ∧ i ≤ 9223372036854775807) ∧ Below w.heap.size w w' := by
  obtain ⟨a, b, off, cp, rfl, hlen, hix, hc, hb⟩ := hv.view Tryz.prog 22 3 Tryz.underlying22 intElem
  have HW := Lib.hid hw
  clear hw
  go_enter Tryz.func309, Tryz.ntmps309
  go_wp2_with fail
  go_loopw [8] (fun i wr => ∃ k : Nat, k ≤ l.length ∧ i = .int .i64 k ∧ (l.take k).any P = false ∧ Below w.heap.size w wr) (fun i _ => l.length - (intOf i).toNat)
  case atStart => exact ⟨0, Nat.zero_le _, rfl, by simp, Below.refl _ _⟩
  case round =>
    obtain ⟨k, hk, rfl, hall, B⟩ := hrel
    have H := Lib.hid hall
    clear hall
    by_cases hlt : k < l.length
    · have hck := cells_below hc hb B (Nat.le_refl _) k hlt
      have hcl := HW.out l[k] wr (List.getElem_mem hlt) B
      have htk : (l.take (k + 1)).any P = ((l.take k).any P || P l[k]) := by rw [List.take_succ_eq_append_getElem hlt, List.any_append]; simp
      have HTK := Lib.hid htk
      clear htk
      cases hP : P l[k] with
      | true =>
        have hh : l.any P = true := List.any_eq_true.2 ⟨_, List.getElem_mem hlt, hP⟩
        have HH := Lib.hid hh
        rw [hP] at hcl
        clear hh hP
        go_wp2_with (go_at_fn c; refine hcl.mono ?_; rintro e w2 ⟨rfl, hb2⟩)
        go_ret
        exact ⟨⟨k, rfl, by rw [HH.out]; simp, by omega, by omega⟩, B.after hb2 B.size⟩
      | false =>
        have HP := Lib.hid hP
        rw [hP] at hcl
        clear hP
        go_wp2_with (go_at_fn c; refine hcl.mono ?_; rintro e w2 ⟨rfl, hb2⟩)
        go_roundw
        case rel => exact ⟨k + 1, by omega, by go_num, by rw [HTK.out, H.out, HP.out]; rfl, B.after hb2 B.size⟩
        case measure => simp [intOf]; omega
    · have hh : l.any P = false := by have := H.out; rw [List.take_of_length_le (by omega)] at this; exact this
      have HH := Lib.hid hh
      clear hh
      go_wp2
      go_ret
      exact ⟨⟨-1, rfl, by rw [HH.out]; simp, by omega, by omega⟩, B⟩

theorem containsFunc3_any (l : List Int) (v : Value) (w : World) (hv : Ints w v l) (c : FuncId) (he : ∀ args w, (callFunc c args).run Tryz.prog w = .ok (.enter c args) w) (g1 g2 g3 : Nat) (P : Int → Bool)
    (hw : ∀ (t : Int) W', t ∈ l → Below w.heap.size w W' → Calls Tryz.prog c #[.int .i64 t, .pointer (some ⟨g1, 0, none⟩), .pointer (some ⟨g2, 0, none⟩), .pointer (some ⟨g3, 0, none⟩)] W' fun e w2 => e = .returned (.bool (P t)) ∧ Below W'.heap.size W' w2) :
    Calls Tryz.prog 234 #[v, .func (.func c) #[] #[.pointer (some ⟨g1, 0, none⟩), .pointer (some ⟨g2, 0, none⟩), .pointer (some ⟨g3, 0, none⟩)]] w fun e w' => e = .returned (.bool (l.any P)) ∧ Below w.heap.size w w' := by
  have hcl := indexFunc3_any l v w hv c he g1 g2 g3 P hw
  clear hw he
  obtain ⟨a, cp, rfl⟩ := hv.shape
  go_enter Tryz.func234, Tryz.ntmps234
  go_wp2_with (go_at_call 309; refine hcl.mono ?_; rintro e w' ⟨⟨i, rfl, hi, hi1, hi2⟩, hb⟩; have HI := Lib.hid hi; clear hi)
  go_ret
  refine ⟨ret_bool ?_, hb⟩
  cases hh : l.any P with
  | true => have := HI.out.2 hh; simpa using this
  | false =>
    have h : ¬ 0 ≤ i := fun h => by rw [HI.out.1 h] at hh; cases hh
    simpa using h

theorem exchClosure_enters : ∀ args w, (callFunc 311 args).run Tryz.prog w = .ok (.enter 311 args) w := enters_of Tryz.func311 (by kernel_rfl) rfl

set_option maxHeartbeats 1000000 in
set_option maxRecDepth 100000 in
theorem exchClosure (w : World) (g1 g2 g3 : Nat) (g : Int) (l : List Int) (v : Value) (a e d : Nat) (hv : Ints w v l) (hasc : l.Pairwise (· < ·)) (hl : l.length ≤ 1048576)
    (d0 : w.cell? ⟨g1, 0, none⟩ = some (.int .i64 g)) (d1 : w.cell? ⟨g1, 1, none⟩ = some v) (d2 : w.cell? ⟨g2, 0, none⟩ = some (.int .i64 (a : Int))) (d3 : w.cell? ⟨g3, 0, none⟩ = some (.int .i64 (e : Int)))
    (ha : a < 64) (he : e < 6) (hd : d < 6) :
    Calls Tryz.prog 311 #[.int .i64 (d : Int), .pointer (some ⟨g1, 0, none⟩), .pointer (some ⟨g2, 0, none⟩), .pointer (some ⟨g3, 0, none⟩)] w fun r w' => r = .returned (.bool (swI l (a : Int) (e : Int) (d : Int))) ∧ Below w.heap.size w w' := by
  obtain ⟨p, c, rfl⟩ := hv.shape
  have he1 := two_pow e 5 (by omega)
  have hd1 := two_pow d 5 (by omega)
  have he2 := he1.1
  have he3 := he1.2
  have hd2 := hd1.1
  have hd3 := hd1.2
  simp at he2 hd2
  have hw1 : wrap64 ((2 : Int) ^ e) = 2 ^ e := by unfold wrap64; omega
  have hw2 : wrap64 ((2 : Int) ^ d) = 2 ^ d := by unfold wrap64; omega
  have hb1 := idif_is (a := (a : Int)) (b := 2 ^ e) (by omega) (by omega) (by omega) (by omega)
  have hy := idif_bd (a : Int) (2 ^ e) 64 (by omega) (by omega)
  have hx : swI l (a : Int) (e : Int) (d : Int) = has l (ior (idif (a : Int) (2 ^ e)) (2 ^ d)) := by unfold swI; rw [Int.toNat_natCast, Int.toNat_natCast]
  obtain ⟨y, hye⟩ : ∃ y, y = idif (a : Int) (2 ^ e) := ⟨_, rfl⟩
  rw [← hye] at hb1 hy hx
  have hb2 := ior_is (a := y) (b := 2 ^ d) (by omega) (by omega) (by omega) (by omega)
  obtain ⟨z, hz⟩ : ∃ z, z = ior y (2 ^ d) := ⟨_, rfl⟩
  rw [← hz] at hb2 hx
  have hcl := hasSet_any g l _ z w hv hasc hl
  have HCL := Lib.hid hcl
  have HX := Lib.hid hx
  clear hcl hasc hx hz hye he1 hd1
  go_enter Tryz.func311, Tryz.ntmps311
  go_wp2_with fail
  refine HCL.out.mono ?_
  rintro r w1 ⟨rfl, b1⟩
  go_wp2
  go_ret
  exact ⟨ret_bool HX.out.symm, b1⟩

set_option maxHeartbeats 1000000 in
set_option maxRecDepth 100000 in
theorem exchangesI_any (w : World) (g : Int) (v : Value) (l : List Int) (hv : Ints w v l) (hasc : l.Pairwise (· < ·)) (hl : l.length ≤ 1048576) (a b : Int) (ha : 0 ≤ a ∧ a < 64) (hb : 0 ≤ b ∧ b < 64) :
    Calls Tryz.prog 237 #[.agg #[.int .i64 g, v], .int .i64 a, .int .i64 b] w fun r w' => r = .returned (.bool (exI l a b)) ∧ Below w.heap.size w w' := by
  obtain ⟨p, c, rfl⟩ := hv.shape
  have hmf : ∀ (fn : Fn) (first cap : Array Value) (w : World), (Instr.makeFunc fn first cap).run Tryz.prog w = .ok (.func fn first cap) w := fun _ _ _ _ => rfl
  obtain ⟨V, hV⟩ : ∃ V, V = (w.alloc (.cells #[.int .i64 g, .slice p l.length c] 27)).alloc (.cells #[.int .i64 a] 3) := ⟨_, rfl⟩
  have B : Below w.heap.size w V := by rw [hV]; exact bl2 _ _ _
  have K1 : Blk V w.heap.size 27 #[.int .i64 g, .slice p l.length c] := by rw [hV]; exact (Blk.new _ _ _).alloc _
  have K2 : Blk V (w.heap.size + 1) 3 #[.int .i64 a] := by rw [hV]; have := Blk.new (w.alloc (.cells #[.int .i64 g, .slice p l.length c] 27)) 3 #[.int .i64 a]; simpa using this
  have hab := idif_is ha.1 ha.2 hb.1 hb.2
  have hba := idif_is hb.1 hb.2 ha.1 ha.2
  have hx1 := idif_bd a b 64 ha.1 ha.2
  have hx2 := idif_bd b a 64 hb.1 hb.2
  have hx : exI l a b = (elL (idif a b)).all fun e => (elL (idif b a)).any (swI l a e) := rfl
  obtain ⟨A, hA⟩ : ∃ A, A = idif a b := ⟨_, rfl⟩
  obtain ⟨D, hD⟩ : ∃ D, D = idif b a := ⟨_, rfl⟩
  rw [← hA] at hab hx1 hx
  rw [← hD] at hba hx2 hx
  have hel := fun W => elementsOf_i A W hx1.1 hx1.2
  have hed := fun W => elementsOf_i D W hx2.1 hx2.2
  have hm1 := mem_elL A
  have hm2 := mem_elL D
  have hl6 := elL_len6 A
  obtain ⟨EA, hEA⟩ : ∃ EA, EA = elL A := ⟨_, rfl⟩
  obtain ⟨ED, hED⟩ : ∃ ED, ED = elL D := ⟨_, rfl⟩
  simp only [← hEA] at hel hm1 hx hl6
  simp only [← hED] at hed hm2 hx
  have hcf : ∀ (W : World) (ge e : Nat) (u : Value), e < 6 → Ints W u ED → Ints W (.slice p l.length c) l → Blk W w.heap.size 27 #[.int .i64 g, .slice p l.length c] → Blk W (w.heap.size + 1) 3 #[.int .i64 a] → Blk W ge 3 #[.int .i64 (e : Int)] →
      Calls Tryz.prog 234 #[u, .func (.func 311) #[] #[.pointer (some ⟨w.heap.size, 0, none⟩), .pointer (some ⟨w.heap.size + 1, 0, none⟩), .pointer (some ⟨ge, 0, none⟩)]] W fun r w' => r = .returned (.bool (ED.any (swI l a (e : Int)))) ∧ Below W.heap.size W w' := by
    intro W ge e u he h1 h2 k1 k2 k3
    refine containsFunc3_any ED u W h1 311 exchClosure_enters _ _ _ (swI l a (e : Int)) ?_
    intro t W' ht hB
    obtain ⟨d, hd, _, rfl⟩ := (hm2 t).1 ht
    obtain ⟨n, rfl⟩ : ∃ n : Nat, a = (n : Int) := ⟨a.toNat, by omega⟩
    exact exchClosure W' _ _ _ g l _ n e d (h2.keep hB) hasc hl ((k1.keep hB).cell 0) ((k1.keep hB).cell 1) ((k2.keep hB).cell 0) ((k3.keep hB).cell 0) (by omega) he hd
  have HV := Lib.hid hV
  have HEL := Lib.hid hel
  have HED := Lib.hid hed
  have HM1 := Lib.hid hm1
  have HCF := Lib.hid hcf
  have HX := Lib.hid hx
  clear hV hel hed hm1 hm2 hcf hx hA hD hEA hED hasc
  have z1 := K1.lt
  have z2 := K2.lt
  have G := K2.cell
  go_enter Tryz.func237, Tryz.ntmps237
  go_wp2_with fail
  rw [HV.out.symm]
  refine (HEL.out V).mono ?_
  rintro r w1 ⟨pa, ia, qa, rfl, o1, b1⟩
  have hia : ia = EA.length := o1.ints.capLe.1
  subst hia
  have B1 := B.after b1 B.size
  have K1a := K1.keep b1
  have K2a := K2.keep b1
  obtain ⟨_, bb, off, _, hve, _, hix, hc, hbb⟩ := o1.ints.view Tryz.prog 22 3 Tryz.underlying22 intElem
  injection hve with x1 _ x3
  subst x1 x3
  have HC := Lib.hid hc
  have HIX := Lib.hid hix
  clear G hc hix o1
  go_wp2_with fail
  go_loopw [15] (fun iv wr => ∃ j : Nat, j ≤ EA.length ∧ iv = .int .i64 j ∧ (EA.take j).all (fun e => ED.any (swI l a e)) = true ∧ Below w1.heap.size w1 wr) (fun iv _ => EA.length - (intOf iv).toNat)
  case atStart =>
    trace_state
    exact ⟨0, Nat.zero_le _, rfl, by simp, Below.refl _ _⟩
  case round =>
    obtain ⟨j, hj, rfl, hall, Bw⟩ := hrel
    have HALL := Lib.hid hall
    clear hall
    have B2 := B1.after Bw B1.size
    have K1b := K1a.keep Bw
    have K2b := K2a.keep Bw
    have z3 := Bw.size
    by_cases hlt : j < EA.length
    · have hlt2 : (j : Int) < (EA.length : Int) := by omega
      have ck := cells_below HC.out hbb Bw (Nat.le_refl _) j hlt
      have ik := fun W => HIX.out W j hlt
      obtain ⟨e, he, _, hee⟩ := (HM1.out _).1 (List.getElem_mem hlt)
      have htk : (EA.take (j + 1)).all (fun e => ED.any (swI l a e)) = ED.any (swI l a (e : Int)) := by rw [List.take_succ_eq_append_getElem hlt, List.all_append, HALL.out, hee]; simp
      rw [hee] at ck
      have HTK := Lib.hid htk
      clear htk
      have K1c : Blk (wr.alloc (.cells #[.int .i64 (e : Int)] 3)) w.heap.size 27 #[.int .i64 g, .slice p l.length c] := K1b.alloc _
      have K2c : Blk (wr.alloc (.cells #[.int .i64 (e : Int)] 3)) (w.heap.size + 1) 3 #[.int .i64 a] := K2b.alloc _
      have K3c : Blk (wr.alloc (.cells #[.int .i64 (e : Int)] 3)) wr.heap.size 3 #[.int .i64 (e : Int)] := Blk.new _ _ _
      have B3 : Below w1.heap.size w1 (wr.alloc (.cells #[.int .i64 (e : Int)] 3)) := Bw.alloc z3 _
      have G := K2c.cell
      go_wp2_with fail
      refine (HED.out _).mono ?_
      rintro r w4 ⟨pd, id, qd, rfl, o4, b4⟩
      have hid2 : id = ED.length := o4.ints.capLe.1
      subst hid2
      have B4 := B3.after b4 B3.size
      have B5 := B1.after B4 B1.size
      have hcf := HCF.out w4 wr.heap.size e _ he o4.ints (hv.below B5 (Nat.le_refl _)) (K1c.keep b4) (K2c.keep b4) (K3c.keep b4)
      obtain ⟨z, hz⟩ : ∃ z, z = ED.any (swI l a (e : Int)) := ⟨_, rfl⟩
      rw [← hz] at hcf
      have HCF2 := Lib.hid hcf
      have HZ := Lib.hid hz
      clear hcf hz G
      cases z with
      | true =>
        go_wp2_with fail
        refine HCF2.out.mono ?_
        rintro r w5 ⟨rfl, b5⟩
        go_wp2
        go_roundw
        case rel => exact ⟨j + 1, by omega, by go_num, by rw [HTK.out, ← HZ.out], B4.after b5 B4.size⟩
        case measure => simp [intOf]; omega
      | false =>
        have hf2 : exI l a b = false := by
          rw [HX.out]
          cases hh : (EA.all fun e => ED.any (swI l a e)) with
          | false => rfl
          | true =>
            have := List.all_eq_true.1 hh _ (List.getElem_mem hlt)
            rw [hee, ← HZ.out] at this
            cases this
        have HF2 := Lib.hid hf2
        clear hf2
        go_wp2_with fail
        refine HCF2.out.mono ?_
        rintro r w5 ⟨rfl, b5⟩
        go_wp2
        go_ret
        exact ⟨ret_bool HF2.out.symm, B5.after b5 B5.size⟩
    · have hlt2 : ¬ (j : Int) < (EA.length : Int) := by omega
      have hh := HALL.out
      rw [List.take_of_length_le (by omega)] at hh
      have HH := Lib.hid hh
      clear hh
      go_wp2
      go_ret
      exact ⟨ret_bool (by rw [HX.out, HH.out]), B2⟩
end Go.Proofs.YtipejodijbjpcaaGreatDoor
end
section
namespace Go.Proofs.YtipejodijbjpcaaGreatDoor
open Go.RowKit Go.G5

set_option maxHeartbeats 1000000 in
set_option maxRecDepth 100000 in
theorem isBasisI_any (w : World) (g : Int) (v : Value) (l : List Int) (hv : Ints w v l) (hf : isFamB g l = true) :
    Calls Tryz.prog 105 #[.agg #[.int .i64 g, v]] w fun r w' => r = .returned (.bool (bfB g l)) ∧ Below w.heap.size w w' := by
  have hv0 := hv
  obtain ⟨p, bb, off, c, rfl, hlen, hix, hc, hb⟩ := hv.view Tryz.prog 22 3 Tryz.underlying22 intElem
  have hm := fam_mem hf
  have hl := fam_len hf
  have hasc := (famOk hf).2.2.2
  obtain ⟨V, hV⟩ : ∃ V, V = w.alloc (.cells #[.int .i64 g, .slice p l.length c] 27) := ⟨_, rfl⟩
  have B : Below w.heap.size w V := by rw [hV]; exact bl1 _ _
  have K1 : Blk V w.heap.size 27 #[.int .i64 g, .slice p l.length c] := by rw [hV]; exact Blk.new _ _ _
  have hfm : ∀ W, W = V → Calls Tryz.prog 90 #[.agg #[.int .i64 g, .slice p l.length c]] W fun e w' => e = .returned (.bool true) ∧ Below W.heap.size W w' := fun W h => by
    rw [h]
    have := isFamI_any g l _ V (hv0.below B (Nat.le_refl _))
    rw [hf] at this
    exact this
  have hex := fun (W : World) (h : Ints W (.slice p l.length c) l) (a b : Int) (ha : 0 ≤ a ∧ a < 64) (hb : 0 ≤ b ∧ b < 64) => exchangesI_any W g _ l h hasc (by omega) a b ha hb
  have hx : bfB g l = (!l.isEmpty && l.all fun a => l.all (exI l a)) := by unfold bfB; rw [hf, Bool.true_and]
  have HV := Lib.hid hV
  have HFM := Lib.hid hfm
  have HEX := Lib.hid hex
  have HX := Lib.hid hx
  have HM := Lib.hid hm
  have HC := Lib.hid hc
  have HIX := Lib.hid hix
  clear hV hfm hex hx hm hf hasc hc hix hlen
  go_enter Tryz.func105, Tryz.ntmps105
  go_wp2_with fail
  refine (HFM.out _ HV.out.symm).mono ?_
  rintro e w1 ⟨rfl, b1⟩
  rw [HV.out.symm] at b1
  have B1 := B.after b1 B.size
  have K1' := K1.keep b1
  have G := K1'.cell
  by_cases h0 : l.length = 0
  · have h0i : ((l.length : Int) == 0) = true := by rw [beq_iff_eq]; omega
    have hx2 : bfB g l = false := by rw [HX.out, List.eq_nil_of_length_eq_zero h0]; rfl
    have HX2 := Lib.hid hx2
    clear hx2
    go_wp2
    go_ret
    exact ⟨ret_bool HX2.out.symm, B1⟩
  · have h0i : ((l.length : Int) == 0) = false := by rw [beq_eq_false_iff_ne]; omega
    have hx2 : bfB g l = l.all fun a => l.all (exI l a) := by
      rw [HX.out]
      have : l.isEmpty = false := by cases l with | nil => simp at h0 | cons _ _ => rfl
      rw [this]; rfl
    have HX2 := Lib.hid hx2
    clear hx2
    go_wp2_with fail
    clear G
    go_loopw [19] (fun iv wr => ∃ j : Nat, j ≤ l.length ∧ iv = .int .i64 j ∧ (l.take j).all (fun a => l.all (exI l a)) = true ∧ Below w1.heap.size w1 wr) (fun iv _ => l.length - (intOf iv).toNat)
    case atStart =>
      exact ⟨0, Nat.zero_le _, rfl, by simp, Below.refl _ _⟩
    case round =>
      obtain ⟨j, hj, rfl, hall, Bw⟩ := hrel
      have HALL := Lib.hid hall
      clear hall
      have B2 := B1.after Bw B1.size
      have K1b := K1'.keep Bw
      have z3 := Bw.size
      by_cases hlt : j < l.length
      · have hlt2 : (j : Int) < (l.length : Int) := by omega
        have ck := cells_below HC.out hb B2 (Nat.le_refl _) j hlt
        have ik := fun W => HIX.out W j hlt
        have ha := HM.out _ (List.getElem_mem hlt)
        have htk : (l.take (j + 1)).all (fun a => l.all (exI l a)) = l.all (exI l l[j]) := by rw [List.take_succ_eq_append_getElem hlt, List.all_append, HALL.out]; simp
        obtain ⟨a, hae⟩ : ∃ a, a = l[j] := ⟨_, rfl⟩
        rw [← hae] at ck ha htk
        have hmem : a ∈ l := by rw [hae]; exact List.getElem_mem hlt
        have HMEM := Lib.hid hmem
        have HTK := Lib.hid htk
        clear htk hae hmem
        have G := K1b.cell
        go_wp2_with fail
        clear G
        go_loopw [26] (fun iv wq => ∃ k : Nat, k ≤ l.length ∧ iv = .int .i64 k ∧ (l.take k).all (exI l a) = true ∧ Below wr.heap.size wr wq) (fun iv _ => l.length - (intOf iv).toNat)
        case atStart => exact ⟨0, Nat.zero_le _, rfl, by simp, Below.refl _ _⟩
        case round =>
          obtain ⟨k, hk, rfl, hall, Bq⟩ := hrel
          have HALL2 := Lib.hid hall
          clear hall ck ik hlt2
          have Bq1 := Bw.after Bq z3
          have B3 := B1.after Bq1 B1.size
          have K1q := K1b.keep Bq
          by_cases hlk : k < l.length
          · have hlk2 : (k : Int) < (l.length : Int) := by omega
            have ck := cells_below HC.out hb B3 (Nat.le_refl _) k hlk
            have ik := fun W => HIX.out W k hlk
            have hbm := HM.out _ (List.getElem_mem hlk)
            have htk := show (l.take (k + 1)).all (exI l a) = exI l a l[k] by rw [List.take_succ_eq_append_getElem hlk, List.all_append, HALL2.out]; simp
            obtain ⟨b, hbe⟩ : ∃ b, b = l[k] := ⟨_, rfl⟩
            rw [← hbe] at ck hbm htk
            have hmemb : b ∈ l := by rw [hbe]; exact List.getElem_mem hlk
            have hcl := HEX.out wr (hv0.below B3 (Nat.le_refl _)) a b ha hbm
            obtain ⟨z, hz⟩ : ∃ z, z = exI l a b := ⟨_, rfl⟩
            rw [← hz] at hcl htk
            have HCL := Lib.hid hcl
            have HTK2 := Lib.hid htk
            have HZ := Lib.hid hz
            have HMB := Lib.hid hmemb
            clear hcl htk hz hmemb hbe
            have G := K1q.cell
            cases z with
            | true =>
              go_wp2_with fail
              refine HCL.out.mono ?_
              rintro r w5 ⟨rfl, b5⟩
              go_wp2
              go_roundw
              case rel => exact ⟨k + 1, by omega, by go_num, by rw [HTK2.out], Bq.after b5 Bq.size⟩
              case measure => simp [intOf]; omega
            | false =>
              have hf2 : bfB g l = false := by
                rw [HX2.out]
                cases hh : (l.all fun a => l.all (exI l a)) with
                | false => rfl
                | true =>
                  have h1 := List.all_eq_true.1 hh _ HMEM.out
                  have h2 := List.all_eq_true.1 h1 _ HMB.out
                  rw [← HZ.out] at h2
                  cases h2
              have HF2 := Lib.hid hf2
              clear hf2
              go_wp2_with fail
              refine HCL.out.mono ?_
              rintro r w5 ⟨rfl, b5⟩
              go_wp2
              go_ret
              exact ⟨ret_bool HF2.out.symm, B3.after b5 B3.size⟩
          · have hlk2 : ¬ (k : Int) < (l.length : Int) := by omega
            have hh := HALL2.out
            rw [List.take_of_length_le (by omega)] at hh
            have HH := Lib.hid hh
            clear hh
            go_wp2
            go_roundw
            case rel => exact ⟨j + 1, by omega, by go_num, by rw [HTK.out, HH.out], Bq1⟩
            case measure => simp [intOf]; omega
      · have hlt2 : ¬ (j : Int) < (l.length : Int) := by omega
        have hh := HALL.out
        rw [List.take_of_length_le (by omega)] at hh
        have HH := Lib.hid hh
        clear hh
        go_wp2
        go_ret
        exact ⟨ret_bool (by rw [HX2.out, HH.out]), B2⟩
end Go.Proofs.YtipejodijbjpcaaGreatDoor
end
