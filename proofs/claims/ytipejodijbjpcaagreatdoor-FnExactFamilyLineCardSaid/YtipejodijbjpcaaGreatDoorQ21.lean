/- Minimum cuts: the second program. Functions made by a closure over two boxes. Functions of masses: the program's own. Functions of masses: the reference's. -/
import Derived.Test.YtipejodijbjpcaaGreatDoorQ20
import Derived.Shelf.Abstract
section
namespace Go.Proofs.YtipejodijbjpcaaGreatDoor
open Go.RowKit Go.G5

set_option maxHeartbeats 2000000 in
set_option maxRecDepth 100000 in
theorem oppS_c (w : World) (n : Int) (v : Value) (l : List Int) (hv : Ints w v l) (_ : l.length ≤ 1048576) :
    Calls Tryz.prog 345 #[.agg #[.int .i64 n, v]] w fun e w' => ∃ ad i cp, e = .returned (.tuple #[.agg #[.int .i64 (opN n l), .slice ad i cp], .bool (isFunB n l)]) ∧ OwnI 3 w.heap.size w' (.slice ad i cp) (opL n l) ∧ Below w.heap.size w w' := by
  obtain ⟨a, b, off, c, rfl, hlen, hix, hc, hb⟩ := hv.view Tryz.prog 22 3 Tryz.underlying22 intElem
  go_enter Tryz.func345, Tryz.ntmps345
  go_wp2_with fail
  refine calls_named ?_
  intro V hV
  have B : Below w.heap.size w V := by rw [hV]; exact bl2 _ _ _
  have K1 : Blk V w.heap.size 32 #[.int .i64 n, .slice a l.length c] := by rw [hV]; exact (Blk.new _ _ _).alloc _
  have K2 : Blk V (w.heap.size + 1) 32 #[.int .i64 0, .slice none 0 0] := by rw [hV]; have := Blk.new (w.alloc (.cells #[.int .i64 n, .slice a l.length c] 32)) 32 #[.int .i64 0, .slice none 0 0]; simpa using this
  clear hV
  refine (isFunS_any n l _ _ (hv.below B (Nat.le_refl _))).mono ?_
  rintro e w1 ⟨rfl, hb1⟩
  have K1 := K1.keep hb1
  have K2 := K2.keep hb1
  have B1 := B.after hb1 B.size
  have hv1 := hv.below B1 (Nat.le_refl _)
  clear B hb1
  have G1 := K1.cell
  have z1 := K1.lt
  have z2 := K2.lt
  cases hf : isFunB n l with
  | false =>
    have hN : opN n l = 0 := by unfold opN; rw [hf]; rfl
    have hL : opL n l = [] := by unfold opL; rw [hf]; rfl
    have HN := Lib.hid hN
    have HL := Lib.hid hL
    have HF := Lib.hid hf
    have G2 := K2.cell
    have F2 := K2.frozen
    clear hN hL
    go_wp2
    refine post_named ?_
    intro Wf hWf
    have K2f : Blk Wf (w.heap.size + 1) 32 #[.int .i64 0, .slice none 0 0] := by
      rw [hWf]
      have := (K2.set 0 (.int .i64 0)).set 1 (.slice none 0 0)
      simpa using this
    have Bf : Below w.heap.size w Wf := by rw [hWf]; exact Below.setCell (Below.setCell B1 (by first | omega | (simp; done) | (simp; omega)) _) (by first | omega | (simp; done) | (simp; omega)) _
    have Gf := K2f.cell
    clear hWf G1 G2 F2
    exact bodyPost_ret (v := .tuple #[.agg #[.int .i64 0, .slice none 0 0], .bool false]) (by simp [results, Tryz.results345, go_sem, Gf]) rfl ⟨none, 0, 0, by rw [HN.out, HF.out], by rw [HL.out]; exact OwnI.nil _ _ _, Bf⟩
  | true =>
    obtain ⟨h0, h5, hlen2, hlb⟩ := funOk hf
    have hl32 : l.length ≤ 32 := by
      have hp := (pow_le32 h0 h5).1
      omega
    have hN : opN n l = n := by unfold opN; rw [hf]; rfl
    have hL : opL n l = madeL (oppF l) l.length := by unfold opL; rw [hf]; rfl
    have HN := Lib.hid hN
    have HL := Lib.hid hL
    have HF := Lib.hid hf
    have HLB := Lib.hid hlb
    have o0 := OwnI.lit0 (E := 3) (B := w1.heap.size) w1 (Nat.le_refl _)
    clear hN hL hf hlen2 hlb
    go_wp2_with fail
    go_loopw [4, 5] (fun out i wr => ∃ (k : Nat) (ad : Option Addr) (nn cp : Nat), k ≤ l.length ∧ out = .slice ad nn cp ∧ i = .int .i64 k ∧ OwnI 3 w1.heap.size wr (.slice ad nn cp) (madeL (oppF l) k) ∧ Below w1.heap.size w1 wr)
      (fun _ i _ => l.length - (intOf i).toNat)
    case atStart => exact ⟨0, _, _, _, Nat.zero_le _, rfl, rfl, o0, bl1 _ _⟩
    case round =>
      obtain ⟨k, ad, nn, cp, hk, rfl, rfl, ho, B⟩ := hrel
      have HO := Lib.hid ho
      have Kr := K1.keep B
      clear ho o0 G1
      have G1 := Kr.cell
      have yB := B.size
      by_cases hlt : k < l.length
      · have hms := madeL_succ (oppF l) k
        have hof := oppF_at l k hlt
        have ck := cells_below hc hb (B1.after B B1.size) (Nat.le_refl _) (l.length - 1 - k) (by omega)
        have ik := fun W => hix W (l.length - 1 - k) (by omega)
        have hbd := HLB.out (l.length - 1 - k) (by omega)
        have hw1 : IntKind.i64.wrap ((l.length : Int) - 1) = (l.length : Int) - 1 := by rw [IntKind.wrap_i64]; omega
        have hw2 : IntKind.i64.wrap ((l.length : Int) - 1 - k) = ((l.length - 1 - k : Nat) : Int) := by rw [IntKind.wrap_i64]; omega
        rw [← hof] at ck hbd
        obtain ⟨x, hx⟩ : ∃ x, x = oppF l k := ⟨_, rfl⟩
        rw [← hx] at ck hbd hms
        have hml : (madeL (oppF l) k).length ≤ 32 := by unfold madeL; simp; omega
        have HMS := Lib.hid hms
        have hx0 := hbd.1
        have hx1 := hbd.2
        clear hms hof hx hbd
        go_wp2_with (at_builtin; refine wpList_appendN1 rfl _ _ _ rfl 3 Tryz.underlying22 intElem w1.heap.size _ _ x wr.heap.size rfl rfl (cell_new wr #[.int .i64 x] 3 0 _ rfl) (HO.out.alloc _) ⟨by omega, by omega⟩ (by omega) (by simp; omega) ?_; intro v' w6 hown hgr hnb; obtain ⟨av, nv, cv, rfl⟩ := hown.shape3)
        have B6 : Below w1.heap.size w1 w6 := (B.alloc B.size (.cells #[.int .i64 x] 3)).grown hgr (by simp; omega) (fun q hq => (HO.out.lt q hq).1)
        go_roundw
        case rel => exact ⟨k + 1, av, nv, cv, by omega, rfl, by go_num, by rw [HMS.out]; exact hown, B6⟩
        case measure => simp [intOf]; omega
      · have hkl : k = l.length := by omega
        subst hkl
        have K2 := K2.keep B
        have B7 := B1.after B B1.size
        have G2 := K2.cell
        have F2 := K2.frozen
        have z2f := K2.lt
        go_wp2
        refine post_named ?_
        intro Wf hWf
        have K2f : Blk Wf (w.heap.size + 1) 32 #[.int .i64 n, .slice ad nn cp] := by
          rw [hWf]
          have := (K2.set 0 (.int .i64 n)).set 1 (.slice ad nn cp)
          simpa using this
        have Bf : Below w.heap.size w Wf := by rw [hWf]; exact Below.setCell (Below.setCell B7 (by first | omega | (simp; done) | (simp; omega)) _) (by first | omega | (simp; done) | (simp; omega)) _
        have of : OwnI 3 w.heap.size Wf (.slice ad nn cp) (madeL (oppF l) l.length) := by rw [hWf]; exact ((HO.out.setBelow (by first | omega | (simp; done) | (simp; omega)) _).setBelow (by first | omega | (simp; done) | (simp; omega)) _).mono (by first | omega | (simp; done) | (simp; omega))
        have Gf := K2f.cell
        clear hWf G1 G2 F2
        exact bodyPost_ret (v := .tuple #[.agg #[.int .i64 n, .slice ad nn cp], .bool true]) (by simp [results, Tryz.results345, go_sem, Gf]) rfl ⟨ad, nn, cp, by rw [HN.out, HF.out], by rw [HL.out]; exact of, Bf⟩

set_option maxHeartbeats 1000000 in
set_option maxRecDepth 100000 in
theorem symS_any (n : Int) (l : List Int) (v : Value) (w : World) (hv : Ints w v l) (hl : l.length ≤ 1048576) :
    Calls Tryz.prog 300 #[.agg #[.int .i64 n, v]] w fun e w' => e = .returned (.bool (symB n l)) ∧ Below w.heap.size w w' := by
  obtain ⟨a, c, rfl⟩ := hv.shape
  have K0 := Blk.new w 32 #[.int .i64 n, .slice a l.length c]
  go_enter Tryz.func300, Tryz.ntmps300
  go_wp2_with fail
  refine (oppS_c _ n _ l (hv.alloc _) hl).mono ?_
  rintro e w1 ⟨p1, i1, q1, rfl, o1, hb1⟩
  have K1 := K0.keep hb1
  have B1 : Below w.heap.size w w1 := (bl1 _ _).after hb1 (by simp)
  have y1 := B1.size
  have z1 := K1.lt
  cases hf : isFunB n l with
  | false =>
    have hx : symB n l = false := by unfold symB; rw [hf]; rfl
    have HX := Lib.hid hx
    clear hx hf
    go_wp2
    go_ret
    exact ⟨by rw [HX.out]; rfl, (by repeat (first | exact Below.refl _ _ | (with_reducible refine Below.setCell ?_ (by first | omega | (simp; done) | (simp; omega)) _) | (with_reducible refine Below.alloc ?_ (by first | omega | (simp; done) | (simp; omega)) _) | (with_reducible refine Below.drewN' ?_ _) | (with_reducible refine Below.drew ?_) | (with_reducible assumption) | refine Below.trans ?_ (Below.mono (by assumption) (by first | omega | (simp; done) | (simp; omega)))))⟩
  | true =>
    have hx : symB n l = decide (l = oppL l) := by unfold symB; rw [hf]; rfl
    have hL : opL n l = oppL l := by unfold opL; rw [hf]; rfl
    rw [hL] at o1
    have heq := fun W (h1 : Ints W (.slice a l.length c) l) (h2 : Ints W (.slice p1 i1 q1) (oppL l)) => l2Same_any _ _ l (oppL l) W h1 h2
    simp only [← hx] at heq
    have HEQ := Lib.hid heq
    obtain ⟨N, hN⟩ : ∃ N, N = opN n l := ⟨_, rfl⟩
    rw [← hN]
    have hv1 := hv.below B1 (Nat.le_refl _)
    clear hx hN hL heq hf
    have G1 := K1.cell
    go_wp2_with (go_at_call 114; refine (HEQ.out _ (hv1.alloc _) (o1.alloc _).ints).mono ?_; rintro e w2 ⟨rfl, nn, rfl⟩)
    go_ret
    exact ⟨rfl, (B1.alloc B1.size _).drewN' _⟩

set_option maxHeartbeats 1000000 in
theorem l14Fit_any (n : Int) (l : List Int) (v : Value) (w : World) (hv : Ints w v l) (hl : l.length ≤ 1048576) :
    Calls Tryz.prog 199 #[.agg #[.int .i64 n, v]] w fun e w' => e = .returned (.bool (fitB n l)) ∧ Below w.heap.size w w' := by
  obtain ⟨a, c, rfl⟩ := hv.shape
  have K0 := Blk.new w 32 #[.int .i64 n, .slice a l.length c]
  have G0 := K0.cell
  by_cases hn : 2 ≤ n
  · go_enter Tryz.func199, Tryz.ntmps199
    go_wp2_with fail
    refine (isSubS_any n l _ _ (hv.alloc _) hl).mono ?_
    rintro e w1 ⟨rfl, hb1⟩
    have K1 := K0.keep hb1
    have B1 : Below w.heap.size w w1 := (bl1 _ _).after hb1 (by simp)
    clear hb1 K0 G0
    cases hs : subB n l with
    | false =>
      have hx : fitB n l = false := by unfold fitB; rw [hs]; rfl
      have HX := Lib.hid hx
      clear hx hs
      go_wp2
      go_ret
      exact ⟨by rw [HX.out]; rfl, B1⟩
    | true =>
      have hx : fitB n l = symB n l := by unfold fitB; rw [hs, decide_eq_true hn]; simp
      have HX := Lib.hid hx
      clear hs hx
      have G1 := K1.cell
      go_wp2_with fail
      refine (symS_any n l _ _ (hv.below B1 (Nat.le_refl _)) hl).mono ?_
      rintro e w2 ⟨rfl, hb2⟩
      have B2 := B1.after hb2 B1.size
      go_wp2
      go_ret
      exact ⟨by rw [HX.out]; rfl, B2⟩
  · have hx : fitB n l = false := by unfold fitB; rw [decide_eq_false hn]; simp
    have HX := Lib.hid hx
    clear hx
    go_enter Tryz.func199, Tryz.ntmps199
    go_wp2
    go_ret
    exact ⟨by rw [HX.out]; rfl, bl1 _ _⟩

set_option maxHeartbeats 2000000 in
set_option maxRecDepth 100000 in
theorem minCutS_c (w : World) (n : Int) (v : Value) (l : List Int) (hv : Ints w v l) (hl : l.length ≤ 1048576) :
    Calls Tryz.prog 61 #[.agg #[.int .i64 n, v]] w fun e w' => e = .returned (.tuple #[.int .i64 (cutN n l), .int .i64 (cutS n l), .bool (fitB n l)]) ∧ Below w.heap.size w w' := by
  have hv0 := hv
  obtain ⟨a, b, off, c, rfl, hlen, hix, hc, hb⟩ := hv.view Tryz.prog 22 3 Tryz.underlying22 intElem
  have K0 := Blk.new w 32 #[.int .i64 n, .slice a l.length c]
  cases hf : fitB n l with
  | false =>
    have hN : cutN n l = 0 := by unfold cutN; rw [hf]; rfl
    have hS : cutS n l = 0 := by unfold cutS; rw [hf]; rfl
    have H := Lib.hid (And.intro hN hS)
    have HF := Lib.hid hf
    clear hN hS hf hc
    go_enter Tryz.func61, Tryz.ntmps61
    go_wp2_with (go_at_call 199; refine (l14Fit_any n l _ _ (hv0.alloc _) hl).mono ?_; rintro e w1 ⟨rfl, hb1⟩; rw [HF.out])
    go_ret3
    exact ⟨by rw [H.out.1, H.out.2]; rfl, (bl1 _ _).after hb1 (by simp)⟩
  | true =>
    obtain ⟨h4, h32, hpow, hn5, hlb⟩ := fit_size hf
    have hn0 : 0 ≤ n := by have := (fit_fun hf).2; omega
    have hN : cutN n l = l.getD (bestTo l (l.length - 1)) 0 := by unfold cutN; rw [hf]; rfl
    have hS : cutS n l = (bestTo l (l.length - 1) : Int) := by unfold cutS; rw [hf]; rfl
    have H := Lib.hid (And.intro hN hS)
    have HF := Lib.hid hf
    have HLB := Lib.hid hlb
    have HC := Lib.hid hc
    have HIX := Lib.hid hix
    have HPW := Lib.hid hpow
    clear hN hS hf hlb hc hix hpow
    go_enter Tryz.func61, Tryz.ntmps61
    go_wp2_with fail
    refine (l14Fit_any n l _ _ (hv0.alloc _) hl).mono ?_
    rintro e w1 ⟨rfl, hb1⟩
    rw [HF.out]
    have K1 := K0.keep hb1
    have B1 : Below w.heap.size w w1 := (bl1 _ _).after hb1 (by simp)
    clear K0 hb1
    go_wp2_with fail
    go_loopw [5, 6] (fun bst i wr => ∃ k : Nat, 2 ≤ k ∧ k ≤ l.length - 1 ∧ i = .int .i64 k ∧ bst = .int .i64 (bestTo l k : Int) ∧ Below w.heap.size w wr ∧ Blk wr w.heap.size 32 #[.int .i64 n, .slice a l.length c]) (fun _ i _ => l.length - (intOf i).toNat)
    case atStart => exact ⟨2, by omega, by omega, rfl, rfl, B1, K1⟩
    case round =>
      obtain ⟨k, hk2, hk, rfl, rfl, B, K⟩ := hrel
      have G1 := K.cell
      have hbk := bestTo_lt l k hk2
      obtain ⟨p, hp⟩ : ∃ p, p = bestTo l k := ⟨_, rfl⟩
      rw [← hp] at hbk ⊢
      have cp := HC.out p (by omega)
      have cp2 := cells_below HC.out hb B (Nat.le_refl _) p (by omega)
      have ip := fun W => HIX.out W p (by omega)
      by_cases hlt : k < l.length - 1
      · have hst := bestTo_succ l k hk2
        rw [← hp, getD_at l k (by omega), getD_at l p (by omega)] at hst
        have ck := cells_below HC.out hb B (Nat.le_refl _) k (by omega)
        have ik := fun W => HIX.out W k (by omega)
        obtain ⟨x, hx⟩ : ∃ x, x = l[k] := ⟨_, rfl⟩
        obtain ⟨y, hy⟩ : ∃ x, x = l[p] := ⟨_, rfl⟩
        rw [← hx] at ck hst
        rw [← hy] at cp2 hst
        have hlt2 : (k : Int) < 2 ^ n.toNat - 1 := by rw [← HPW.out]; omega
        have HST := Lib.hid hst
        clear hst hp hx hy cp
        have hwr : IntKind.i64.wrap ((l.length : Int) - 1) = (l.length : Int) - 1 := by rw [IntKind.wrap_i64]; omega
        have hlt3 : (k : Int) < (l.length : Int) - 1 := by omega
        have B3 := B
        have K3 := K
        by_cases hxy : x < y
        · have HS2 := Lib.hid (HST.out.trans (if_pos hxy))
          go_wp2_with fail
          go_quiet (fail)
          go_wp2
          go_roundw
          case rel => exact ⟨k + 1, by omega, by omega, by go_num, by rw [HS2.out], B3.drewN' _, K3.drewN _⟩
          case measure => simp [intOf]; omega
        · have HS2 := Lib.hid (HST.out.trans (if_neg hxy))
          go_wp2_with fail
          go_quiet (fail)
          go_wp2
          go_roundw
          case rel => exact ⟨k + 1, by omega, by omega, by go_num, by rw [HS2.out], B3.drewN' _, K3.drewN _⟩
          case measure => simp [intOf]; omega
      · have hkl : k = l.length - 1 := by omega
        have hlt2 : ¬ (k : Int) < 2 ^ n.toNat - 1 := by rw [← HPW.out]; omega
        have hg : l.getD p 0 = l[p] := getD_at l p (by omega)
        obtain ⟨y, hy⟩ : ∃ x, x = l[p] := ⟨_, rfl⟩
        rw [← hy] at cp2 hg
        have HP := Lib.hid hp
        have HG := Lib.hid hg
        have HKL := Lib.hid hkl
        clear hp hg hkl hy cp
        have hwr : IntKind.i64.wrap ((l.length : Int) - 1) = (l.length : Int) - 1 := by rw [IntKind.wrap_i64]; omega
        have hlt3 : ¬ (k : Int) < (l.length : Int) - 1 := by omega
        have B3 := B
        go_wp2
        go_ret3
        exact ⟨by rw [H.out.1, H.out.2, ← HKL.out, ← HP.out, HG.out]; rfl, B3⟩
end Go.Proofs.YtipejodijbjpcaaGreatDoor
end
section
namespace Go.Proofs.YtipejodijbjpcaaGreatDoor
open Go.RowKit Go.G5

set_option maxHeartbeats 2000000 in
set_option maxRecDepth 100000 in
theorem makeFunction2_any (w : World) (n : Nat) (hn : n ≤ 5) (c : FuncId) (he : ∀ args w, (callFunc c args).run Tryz.prog w = .ok (.enter c args) w) (g g' : Nat) (F : Nat → Int) (hF : ∀ s, s < 2 ^ n → InR (F s))
    (hw : ∀ (s : Nat) W', s < 2 ^ n → Below w.heap.size w W' → Calls Tryz.prog c #[.int .i64 (s : Int), .pointer (some ⟨g, 0, none⟩), .pointer (some ⟨g', 0, none⟩)] W' fun e w2 => e = .returned (.int .i64 (F s)) ∧ Below W'.heap.size W' w2) :
    Calls Tryz.prog 273 #[.int .i64 (n : Int), .func (.func c) #[] #[.pointer (some ⟨g, 0, none⟩), .pointer (some ⟨g', 0, none⟩)]] w fun e w' =>
      ∃ ad i cp, e = .returned (.tuple #[.agg #[.int .i64 (if isFunB n (madeL F (2 ^ n)) then (n : Int) else 0), .slice ad i cp], .bool (isFunB n (madeL F (2 ^ n)))]) ∧ OwnI 3 w.heap.size w' (.slice ad i cp) (if isFunB n (madeL F (2 ^ n)) then madeL F (2 ^ n) else []) ∧ Below w.heap.size w w' := by
  have hpn : (2 : Nat) ^ n ≤ 32 := Nat.pow_le_pow_right (by decide) hn
  have hp1 := Nat.two_pow_pos n
  have hpi : ((2 ^ n : Nat) : Int) = (2 : Int) ^ n := by simp
  obtain ⟨N, hN⟩ : ∃ N : Nat, N = 2 ^ n := ⟨_, rfl⟩
  rw [← hN] at hw hF hpn hp1 hpi ⊢
  clear hN
  have r0 := (BoxAt.new w (.int .i64 0) (.slice none 0 0) 32)
  have r1 := r0.keep (bl1 _ (.cells #[.int .i64 n, .slice none 0 0] 32))
  have b1 := BoxAt.new (w.alloc (.cells #[.int .i64 0, .slice none 0 0] 32)) (.int .i64 n) (.slice none 0 0) 32
  go_enter Tryz.func273, Tryz.ntmps273
  go_wp2_with fail
  go_loopw [13] (fun i wr => ∃ (k : Nat) (ad : Option Addr) (nn cp : Nat), k ≤ N ∧ i = .int .i64 k ∧ OwnI 3 (w.heap.size + 1 + 1) wr (.slice ad nn cp) (madeL F k) ∧ Below w.heap.size w wr ∧
      BoxAt wr w.heap.size (.int .i64 0) (.slice none 0 0) ∧ BoxAt wr (w.heap.size + 1) (.int .i64 n) (.slice ad nn cp))
    (fun i _ => N - (intOf i).toNat)
  case atStart => exact ⟨0, none, 0, 0, Nat.zero_le _, rfl, OwnI.nil _ _ _, (by repeat (first | exact Below.refl _ _ | (with_reducible refine Below.setCell ?_ (by first | omega | (simp; done) | (simp; omega)) _) | (with_reducible refine Below.alloc ?_ (by first | omega | (simp; done) | (simp; omega)) _) | (with_reducible refine Below.drewN' ?_ _) | (with_reducible refine Below.drew ?_) | (with_reducible assumption) | refine Below.trans ?_ (Below.mono (by assumption) (by first | omega | (simp; done) | (simp; omega))))), r1, by simpa using b1⟩
  case round =>
    obtain ⟨k, ad, nn, cp, hk, rfl, ho, B, R, X⟩ := hrel
    clear r0 r1 b1
    by_cases hlt : k < N
    · have hlt2 : (k : Int) < 2 ^ n := by rw [← hpi]; exact_mod_cast hlt
      have zr := R.lt
      have zx := X.lt
      have hFk := hF k hlt
      have hlen : (madeL F k).length = k := by simp [madeL]
      have hlk : (madeL F k).length ≤ 64 := by omega
      have hrow := ho.lt
      have HO := Lib.hid ho
      have HR := Lib.hid R
      have HXX := Lib.hid X
      obtain ⟨e0, e1, g0, g1⟩ := X
      clear ho R
      have hcl := hw k wr.drew hlt B.drew
      clear hw
      go_wp2
      go_region_law
        (first
          | (go_simp; go_at_fn c; refine hcl.mono ?_; rintro e w2 ⟨rfl, hb2⟩; have X2 := HXX.out.keep ((Below.refl _ _).drew.after hb2 (Nat.le_refl _)); have X3 := X2.keep (bl1 w2 (.cells #[.int .i64 (F k)] 3)); have zz2 := X2.lt; have x1 := X2.d1; have x2 := X2.f1; have x3 := X3.d1; have x4 := X3.f1)
          | (refine step_appendI rfl _ _ _ rfl 3 Tryz.underlying22 intElem (w.heap.size + 1 + 1) _ _ (F k) w2.heap.size rfl rfl (cell_new w2 #[.int .i64 (F k)] 3 0 _ rfl) ((HO.out.keep ((Below.refl _ _).drew.after hb2 (Nat.le_refl _))).alloc (.cells #[.int .i64 (F k)] 3)) hFk (by omega) (by simp; omega) ?_; intro v' w6 hown hgr; obtain ⟨av, nv, cv, rfl⟩ := hown.shape3; have X6 := X3.grow hgr (fun e => by have := (hrow _ e).1; omega); obtain ⟨i0, i1, j0, j1⟩ := X6))
      all_goals
       have B6 : Below w.heap.size w w6 := (((B.drew).after hb2 B.size).alloc (B.drew.after hb2 B.size).size (.cells #[.int .i64 (F k)] 3)).grown hgr (by simp; omega) (fun q hq => by have := (hrow q hq).1; omega)
       have R6 := ((HR.out.keep ((Below.refl _ _).drew.after hb2 (Nat.le_refl _))).keep (bl1 w2 (.cells #[.int .i64 (F k)] 3))).grow hgr (fun e => by have := (hrow _ e).1; omega)
       go_wp2
       go_roundw
       case rel => exact ⟨k + 1, av, nv, cv, by omega, by go_num, by rw [madeL_succ]; exact hown.setBelow (by first | omega | (simp; done) | (simp; omega)) _, B6.setCell (by first | omega | (simp; done) | (simp; omega)) _, R6.other (by omega) _, (BoxAt.mk i0 i1 j0 j1).set1 _⟩
       case measure => simp [intOf]; omega
    · have hlt2 : ¬ (k : Int) < 2 ^ n := by rw [← hpi]; exact_mod_cast hlt
      have hkN : k = N := by omega
      subst hkN
      have HO := Lib.hid ho
      have HR := Lib.hid R
      have HXX := Lib.hid X
      obtain ⟨e0, e1, g0, g1⟩ := X
      have hi := ho.ints
      clear ho hw R
      go_wp2_with fail
      refine (isFunI_any n _ _ _ hi).mono ?_
      rintro e w2 ⟨rfl, hb2⟩
      have B2 := B.after hb2 B.size
      have o2 := HO.out.keep hb2
      have HO2 := Lib.hid o2
      obtain ⟨f0, f1, j0, j1⟩ := HR.out.keep hb2
      obtain ⟨i0, i1, q0, q1⟩ := HXX.out.keep hb2
      clear e0 e1 g0 g1 hb2 B o2 hi
      cases hf : isFunB n (madeL F k) with
      | false =>
        have HF := Lib.hid hf
        go_wp2
        all_goals refine bodyPost_ret (v := .tuple #[.agg #[.int .i64 0, .slice none 0 0], .bool false]) (by simp [results, Tryz.results273, go_sem, f0, f1]) rfl ⟨none, 0, 0, rfl, OwnI.nil _ _ _, Below.setCell (Below.setCell B2 (Nat.le_refl _) _) (Nat.le_refl _) _⟩
      | true =>
        have HF := Lib.hid hf
        go_wp2
        refine bodyPost_ret (v := .tuple #[.agg #[.int .i64 n, .slice ad nn cp], .bool true]) (by simp [results, Tryz.results273, go_sem, f0, f1]) rfl ⟨ad, nn, cp, rfl, ?_, ?_⟩
        · exact ((HO2.out.setBelow (by first | omega | (simp; done) | (simp; omega)) _).setBelow (by first | omega | (simp; done) | (simp; omega)) _).mono (by first | omega | (simp; done) | (simp; omega))
        · exact Below.setCell (Below.setCell B2 (Nat.le_refl _) _) (Nat.le_refl _) _
end Go.Proofs.YtipejodijbjpcaaGreatDoor
end
section
namespace Go.Proofs.YtipejodijbjpcaaGreatDoor
open Go.RowKit Go.G5

def fomF (m : List Int) (s : Nat) : Int := sumTo m s (s + 1)
def fomOk (n : Int) (m : List Int) : Bool := inB n 0 5 && (m.length == 2 ^ n.toNat) && allIn m (-100000) 100000
def fomV (n : Int) (m : List Int) : List Int := madeL (fomF m) (2 ^ n.toNat)
def fomB (n : Int) (m : List Int) : Bool := fomOk n m && isFunB n (fomV n m)
def fomN (n : Int) (m : List Int) : Int := if fomB n m then n else 0
def fomL (n : Int) (m : List Int) : List Int := if fomB n m then fomV n m else []

theorem fomL_len (n : Int) (m : List Int) : (fomL n m).length ≤ 1048576 := by
  unfold fomL
  split
  · rename_i h
    have h1 : inB n 0 5 = true := by
      unfold fomB fomOk at h
      simp only [Bool.and_eq_true] at h
      exact h.1.1.1
    have h2 := inB_true.1 h1
    have h3 : (2 : Nat) ^ n.toNat ≤ 2 ^ 5 := Nat.pow_le_pow_right (by decide) (by omega)
    unfold fomV madeL
    simp; omega
  · simp

end Go.Proofs.YtipejodijbjpcaaGreatDoor
end
section
namespace Go.Proofs.YtipejodijbjpcaaGreatDoor
open Go.RowKit Go.G5

theorem sumTo_bd2 (m : List Int) (s k : Nat) (hk : k ≤ m.length) (h : ∀ j, (hj : j < m.length) → j < k → -100000 ≤ m[j] ∧ m[j] ≤ 100000) : -100000 * (k : Int) ≤ sumTo m s k ∧ sumTo m s k ≤ 100000 * (k : Int) := by
  induction k with
  | zero => simp [sumTo]
  | succ k ih =>
    have h1 := ih (by omega) (fun j hj hjk => h j hj (by omega))
    have h2 := h k (by omega) (by omega)
    rw [sumTo, List.getD_eq_getElem?_getD, List.getElem?_eq_getElem (show k < m.length by omega), Option.getD_some]
    split <;> omega

theorem l2Made_yes (w : World) (n : Int) (ad : Option Addr) (i cp : Nat) (l : List Int) (hv : Ints w (.slice ad i cp) l) (hf : isFunB n l = true) :
    Calls Tryz.prog 113 #[.int .i64 n, .slice ad i cp] w fun e w' => e = .returned (.tuple #[.agg #[.int .i64 n, .slice ad i cp], .bool true]) ∧ Below w.heap.size w w' := by
  go_enter Tryz.func113, Tryz.ntmps113
  go_wp2_with fail
  refine (isFunS_any n l _ _ (hv.below (by repeat (first | exact Below.refl _ _ | (with_reducible refine Below.setCell ?_ (by first | omega | (simp; done) | (simp; omega)) _) | (with_reducible refine Below.alloc ?_ (by first | omega | (simp; done) | (simp; omega)) _) | (with_reducible refine Below.drewN' ?_ _) | (with_reducible refine Below.drew ?_) | (with_reducible assumption) | refine Below.trans ?_ (Below.mono (by assumption) (by first | omega | (simp; done) | (simp; omega))))) (Nat.le_refl _))).mono ?_
  rintro e w1 ⟨rfl, hb⟩
  rw [hf]
  obtain ⟨hc, hff⟩ := bcellN hb (w.heap.size + 1 + 1) (by first | omega | (simp; done) | (simp; omega))
  have z := hb.size
  simp at z
  go_wp2
  exact bodyPost_ret (v := .tuple #[.agg #[.int .i64 n, .slice ad i cp], .bool true]) (by simp [results, Tryz.results113, go_sem, hc]) rfl ⟨rfl, (by repeat (first | exact Below.refl _ _ | (with_reducible refine Below.setCell ?_ (by first | omega | (simp; done) | (simp; omega)) _) | (with_reducible refine Below.alloc ?_ (by first | omega | (simp; done) | (simp; omega)) _) | (with_reducible refine Below.drewN' ?_ _) | (with_reducible refine Below.drew ?_) | (with_reducible assumption) | refine Below.trans ?_ (Below.mono (by assumption) (by first | omega | (simp; done) | (simp; omega)))))⟩
theorem l2Made_no (w : World) (n : Int) (ad : Option Addr) (i cp : Nat) (l : List Int) (hv : Ints w (.slice ad i cp) l) (hf : isFunB n l = false) :
    Calls Tryz.prog 113 #[.int .i64 n, .slice ad i cp] w fun e w' => e = .returned (.tuple #[.agg #[.int .i64 0, .slice none 0 0], .bool false]) ∧ Below w.heap.size w w' := by
  go_enter Tryz.func113, Tryz.ntmps113
  go_wp2_with fail
  refine (isFunS_any n l _ _ (hv.below (by repeat (first | exact Below.refl _ _ | (with_reducible refine Below.setCell ?_ (by first | omega | (simp; done) | (simp; omega)) _) | (with_reducible refine Below.alloc ?_ (by first | omega | (simp; done) | (simp; omega)) _) | (with_reducible refine Below.drewN' ?_ _) | (with_reducible refine Below.drew ?_) | (with_reducible assumption) | refine Below.trans ?_ (Below.mono (by assumption) (by first | omega | (simp; done) | (simp; omega))))) (Nat.le_refl _))).mono ?_
  rintro e w1 ⟨rfl, hb⟩
  rw [hf]
  obtain ⟨hc, hff⟩ := bcellN hb (w.heap.size + 1 + 1) (by first | omega | (simp; done) | (simp; omega))
  have z := hb.size
  simp at z
  go_wp2
  exact bodyPost_ret (v := .tuple #[.agg #[.int .i64 0, .slice none 0 0], .bool false]) (by simp [results, Tryz.results113, go_sem, hc]) rfl ⟨rfl, (by repeat (first | exact Below.refl _ _ | (with_reducible refine Below.setCell ?_ (by first | omega | (simp; done) | (simp; omega)) _) | (with_reducible refine Below.alloc ?_ (by first | omega | (simp; done) | (simp; omega)) _) | (with_reducible refine Below.drewN' ?_ _) | (with_reducible refine Below.drew ?_) | (with_reducible assumption) | refine Below.trans ?_ (Below.mono (by assumption) (by first | omega | (simp; done) | (simp; omega)))))⟩

theorem l2Made_any (w : World) (n : Int) (ad : Option Addr) (i cp : Nat) (l : List Int) (hv : Ints w (.slice ad i cp) l) (hf : Bool) (h : isFunB n l = hf) :
    Calls Tryz.prog 113 #[.int .i64 n, .slice ad i cp] w fun e w' => ∃ ad' i' cp', e = .returned (.tuple #[.agg #[.int .i64 (if hf then n else 0), .slice ad' i' cp'], .bool hf]) ∧ (.slice ad' i' cp' : Value) = (if hf then .slice ad i cp else .slice none 0 0) ∧ Below w.heap.size w w' := by
  cases hf
  · exact (l2Made_no w n ad i cp l hv h).mono fun e w' ⟨h1, h2⟩ => ⟨_, _, _, h1, rfl, h2⟩
  · exact (l2Made_yes w n ad i cp l hv h).mono fun e w' ⟨h1, h2⟩ => ⟨_, _, _, h1, rfl, h2⟩

end Go.Proofs.YtipejodijbjpcaaGreatDoor
end
