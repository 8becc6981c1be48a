/- Minimum cuts: the first program. Minimum cuts: the first program's search, and claims of it. -/
import Derived.Test.YtipejodijbjpcaaGreatDoorQ19
import Derived.Deep.RegionHeld3
section
namespace Go.Proofs.YtipejodijbjpcaaGreatDoor
open Go.RowKit Go.G5

set_option maxHeartbeats 1000000 in
set_option maxRecDepth 100000 in
theorem oppClosure (n : Nat) (hn : n ≤ 5) (l : List Int) (v : Value) (g s : Nat) (W : World) (hv : Ints W v l) (hl : l.length = 2 ^ n) (hs : s < 2 ^ n) (c0 : W.cell? ⟨g, 0, none⟩ = some (.int .i64 n)) (c1 : W.cell? ⟨g, 1, none⟩ = some v) :
    Calls Tryz.prog 389 #[.int .i64 s, .pointer (some ⟨g, 0, none⟩)] W fun e w' => e = .returned (.int .i64 (oppF l s)) ∧ Below W.heap.size W w' := by
  have hv0 := hv
  obtain ⟨a, b, off, c, rfl, hlen, hix, hc, hb⟩ := hv.view Tryz.prog 22 3 Tryz.underlying22 intElem
  have hf := oppF_at l s (by omega)
  have p5 : (2 : Nat) ^ n ≤ 32 := Nat.pow_le_pow_right (n := 2) (by decide) hn
  have hd := ndiff_full n hn s hs
  have hbits := bitsN (2 ^ n - 1) s (by omega) (by omega)
  rw [hd] at hbits
  have hpn := Nat.two_pow_pos n
  have hcast : ((2 ^ n - 1 : Nat) : Int) = (2 : Int) ^ n - 1 := by rw [Int.ofNat_sub hpn]; simp
  rw [hcast] at hbits
  have hck := hc (l.length - 1 - s) (by omega)
  have hixk := fun W => hix W (l.length - 1 - s) (by omega)
  rw [← hf] at hck
  rw [hl] at hck hixk
  have e0 : ∀ x : Ext W, x.w.cell? ⟨g, 0, none⟩ = some (.int .i64 n) := fun x => x.cell c0
  have e1 : ∀ x : Ext W, x.w.cell? ⟨g, 1, none⟩ = some (.slice a l.length c) := fun x => x.cell c1
  have e2 : ∀ x : Ext W, x.w.cell? ⟨b, off + (2 ^ n - 1 - s), none⟩ = some (.int .i64 (oppF l s)) := fun x => x.cell hck
  obtain ⟨q, hq⟩ : ∃ q, q = oppF l s := ⟨_, rfl⟩
  rw [← hq] at e2
  obtain ⟨m, hm⟩ : ∃ m, m = 2 ^ n - 1 - s := ⟨_, rfl⟩
  simp only [← hm] at hixk e2 hbits
  have HQ := Lib.hid hq
  have HAL := Lib.hid (fun (x : Ext W) => allOf_any (n : Int) (.slice a l.length c) l x.w (x.ints hv0) (by omega) (by omega))
  have hL : l.length = 2 ^ n := hl
  rw [← hL] at hixk
  have HLL := Lib.hid hl
  clear hc hix hb hf hd hck hq hm hcast hl hL
  go_enter Tryz.func389, Tryz.ntmps389
  go_wp2_with fail
  refine wp_region_ext _ (by kernel_rfl) (by kernel_rfl) ?_
  repeat (first | go_big_quiet_skip | (go_big_quiet_want; go_big_quiet_op; first | go_big_quiet_on | (apply Exists.intro; refine ⟨fun _ => ?_, ?_⟩; (go_at_call 127; exact ext_call (HAL.out _)); go_big_quiet_on)))
  refine wpQuiet_nil ?_
  rintro w3 ⟨⟨w3, hb3⟩, rfl⟩
  try dsimp only
  go_wp2
  go_ret
  exact ⟨ret_int HQ.out, hb3⟩
theorem oppClosure_enters : ∀ args w, (callFunc 389 args).run Tryz.prog w = .ok (.enter 389 args) w := enters_of Tryz.func389 (by kernel_rfl) rfl

set_option maxHeartbeats 1000000 in
set_option maxRecDepth 100000 in
theorem oppI_c (w : World) (n : Int) (v : Value) (l : List Int) (hv : Ints w v l) (_ : l.length ≤ 1048576) :
    Calls Tryz.prog 371 #[.agg #[.int .i64 n, v]] w fun e w' => ∃ ad i cp, e = .returned (.tuple #[.agg #[.int .i64 (opN n l), .slice ad i cp], .bool (isFunB n l)]) ∧ OwnI 3 w.heap.size w' (.slice ad i cp) (opL n l) ∧ Below w.heap.size w w' := by
  obtain ⟨a, c, rfl⟩ := hv.shape
  have hmf : ∀ (fn : Fn) (first cap : Array Value) (w : World), (Instr.makeFunc fn first cap).run Tryz.prog w = .ok (.func fn first cap) w := fun _ _ _ _ => rfl
  go_enter Tryz.func371, Tryz.ntmps371
  go_wp2_with fail
  refine calls_named ?_
  intro V hV
  have B : Below w.heap.size w V := by rw [hV]; exact bl2 _ _ _
  have K1 : Blk V w.heap.size 32 #[.int .i64 n, .slice a l.length c] := by rw [hV]; exact (Blk.new _ _ _).alloc _
  have K2 : Blk V (w.heap.size + 1) 32 #[.int .i64 0, .slice none 0 0] := by rw [hV]; have := Blk.new (w.alloc (.cells #[.int .i64 n, .slice a l.length c] 32)) 32 #[.int .i64 0, .slice none 0 0]; simpa using this
  clear hV
  refine (isFunI_any n l _ _ (hv.below B (Nat.le_refl _))).mono ?_
  rintro e w1 ⟨rfl, hb1⟩
  have K1 := K1.keep hb1
  have K2 := K2.keep hb1
  have B1 := B.after hb1 B.size
  have hv1 := hv.below B1 (Nat.le_refl _)
  clear B hb1
  have G1 := K1.cell
  have z1 := K1.lt
  have z2 := K2.lt
  cases hf : isFunB n l with
  | false =>
    have hN : opN n l = 0 := by unfold opN; rw [hf]; rfl
    have hL : opL n l = [] := by unfold opL; rw [hf]; rfl
    have HN := Lib.hid hN
    have HL := Lib.hid hL
    have HF := Lib.hid hf
    have G2 := K2.cell
    have F2 := K2.frozen
    clear hN hL
    go_wp2
    refine post_named ?_
    intro Wf hWf
    have K2f : Blk Wf (w.heap.size + 1) 32 #[.int .i64 0, .slice none 0 0] := by
      rw [hWf]
      have := (K2.set 0 (.int .i64 0)).set 1 (.slice none 0 0)
      simpa using this
    have Bf : Below w.heap.size w Wf := by rw [hWf]; exact Below.setCell (Below.setCell B1 (by first | omega | (simp; done) | (simp; omega)) _) (by first | omega | (simp; done) | (simp; omega)) _
    have Gf := K2f.cell
    clear hWf G1 G2 F2
    exact bodyPost_ret (v := .tuple #[.agg #[.int .i64 0, .slice none 0 0], .bool false]) (by simp [results, Tryz.results371, go_sem, Gf]) rfl ⟨none, 0, 0, by rw [HN.out, HF.out], by rw [HL.out]; exact OwnI.nil _ _ _, Bf⟩
  | true =>
    obtain ⟨h0, h5, hlen, hlb⟩ := funOk hf
    obtain ⟨N, rfl⟩ := Int.eq_ofNat_of_zero_le h0
    have hN5 : N ≤ 5 := by omega
    have hl2 : l.length = 2 ^ N := by
      have e2 : (N : Int).toNat = N := by omega
      rw [e2] at hlen
      exact_mod_cast hlen
    have hN : opN N l = N := by unfold opN; rw [hf]; rfl
    have hL : opL N l = oppL l := by unfold opL; rw [hf]; rfl
    have hmade : madeL (oppF l) (2 ^ N) = oppL l := by unfold oppL; rw [hl2]
    have hfo : isFunB N (madeL (oppF l) (2 ^ N)) = true := by rw [hmade]; exact opp_fun N l hf
    have hmk : ∀ W, Ints W (.slice a l.length c) l → W.cell? ⟨w.heap.size, 0, none⟩ = some (.int .i64 N) → W.cell? ⟨w.heap.size, 1, none⟩ = some (.slice a l.length c) → Calls Tryz.prog 273 #[.int .i64 N, .func (.func 389) #[] #[.pointer (some ⟨w.heap.size, 0, none⟩)]] W fun e w' =>
        ∃ ad i cp, e = .returned (.tuple #[.agg #[.int .i64 N, .slice ad i cp], .bool true]) ∧ OwnI 3 W.heap.size w' (.slice ad i cp) (oppL l) ∧ Below W.heap.size W w' := fun W hW c0 c1 => by
      have := makeFunction_any W N hN5 389 oppClosure_enters w.heap.size (oppF l) (fun s hs => by rw [oppF_at l s (by omega)]; have := hlb (l.length - 1 - s) (by omega); exact ⟨by omega, by omega⟩)
        (fun s W' hs hB => oppClosure N hN5 l _ w.heap.size s W' (hW.keep hB) hl2 hs (keep hB c0) (keep hB c1))
      rw [hfo, if_pos rfl, if_pos rfl, hmade] at this
      exact this
    have HN := Lib.hid hN
    have HL := Lib.hid hL
    have HF := Lib.hid hf
    have HMK := Lib.hid hmk
    clear hN hL hf hmade hfo hmk hl2 hlen hlb
    go_wp2_with fail
    refine (HMK.out _ hv1 (G1 0) (G1 1)).mono ?_
    rintro e w3 ⟨p3, i3, q3, rfl, o3, hb3⟩
    have K2 := K2.keep hb3
    have B3 := B1.after hb3 B1.size
    have G2 := K2.cell
    have F2 := K2.frozen
    have z3 := K2.lt
    clear G1 hb3
    go_wp2
    refine post_named ?_
    intro Wf hWf
    have K2f : Blk Wf (w.heap.size + 1) 32 #[.int .i64 N, .slice p3 i3 q3] := by
      rw [hWf]
      have := (K2.set 0 (.int .i64 N)).set 1 (.slice p3 i3 q3)
      simpa using this
    have Bf : Below w.heap.size w Wf := by rw [hWf]; exact Below.setCell (Below.setCell B3 (by first | omega | (simp; done) | (simp; omega)) _) (by first | omega | (simp; done) | (simp; omega)) _
    have of : OwnI 3 w.heap.size Wf (.slice p3 i3 q3) (oppL l) := by rw [hWf]; exact ((o3.setBelow (by first | omega | (simp; done) | (simp; omega)) _).setBelow (by first | omega | (simp; done) | (simp; omega)) _).mono (by first | omega | (simp; done) | (simp; omega))
    have Gf := K2f.cell
    clear hWf G2 F2
    exact bodyPost_ret (v := .tuple #[.agg #[.int .i64 N, .slice p3 i3 q3], .bool true]) (by simp [results, Tryz.results371, go_sem, Gf]) rfl ⟨p3, i3, q3, by rw [HN.out, HF.out], by rw [HL.out]; exact of, Bf⟩

set_option maxHeartbeats 1000000 in
theorem eqFunI_any (n n' : Int) (v v' : Value) (l l' : List Int) (w : World) (hv : Ints w v l) (hv' : Ints w v' l') :
    Calls Tryz.prog 212 #[.agg #[.int .i64 n, v], .agg #[.int .i64 n', v']] w fun e w' => e = .returned (.bool (n == n' && decide (l = l'))) ∧ Below w.heap.size w w' := by
  obtain ⟨a, c, rfl⟩ := hv.shape
  obtain ⟨a', c', rfl⟩ := hv'.shape
  cases h : (n == n') with
  | false =>
    go_enter Tryz.func212, Tryz.ntmps212
    go_wp2
    go_ret
    exact ⟨rfl, bl2 _ _ _⟩
  | true =>
    go_enter Tryz.func212, Tryz.ntmps212
    go_wp2_with (go_at_call 124; refine (slicesEqual_any _ _ l l' _ ((hv.alloc _).alloc _) ((hv'.alloc _).alloc _)).mono ?_; rintro e w2 ⟨rfl, nn, rfl⟩)
    go_ret
    exact ⟨rfl, (bl2 _ _ _).drewN' _⟩

set_option maxHeartbeats 1000000 in
set_option maxRecDepth 100000 in
theorem symI_any (n : Int) (l : List Int) (v : Value) (w : World) (hv : Ints w v l) (hl : l.length ≤ 1048576) :
    Calls Tryz.prog 341 #[.agg #[.int .i64 n, v]] w fun e w' => e = .returned (.bool (symB n l)) ∧ Below w.heap.size w w' := by
  obtain ⟨a, c, rfl⟩ := hv.shape
  have K0 := Blk.new w 32 #[.int .i64 n, .slice a l.length c]
  go_enter Tryz.func341, Tryz.ntmps341
  go_wp2_with fail
  refine (oppI_c _ n _ l (hv.alloc _) hl).mono ?_
  rintro e w1 ⟨p1, i1, q1, rfl, o1, hb1⟩
  have K1 := K0.keep hb1
  have B1 : Below w.heap.size w w1 := (bl1 _ _).after hb1 (by simp)
  have y1 := B1.size
  have z1 := K1.lt
  cases hf : isFunB n l with
  | false =>
    have hx : symB n l = false := by unfold symB; rw [hf]; rfl
    have HX := Lib.hid hx
    clear hx hf
    go_wp2
    go_ret
    exact ⟨by rw [HX.out]; rfl, (by repeat (first | exact Below.refl _ _ | (with_reducible refine Below.setCell ?_ (by first | omega | (simp; done) | (simp; omega)) _) | (with_reducible refine Below.alloc ?_ (by first | omega | (simp; done) | (simp; omega)) _) | (with_reducible refine Below.drewN' ?_ _) | (with_reducible refine Below.drew ?_) | (with_reducible assumption) | refine Below.trans ?_ (Below.mono (by assumption) (by first | omega | (simp; done) | (simp; omega)))))⟩
  | true =>
    have hx : symB n l = decide (l = oppL l) := by unfold symB; rw [hf]; rfl
    have hN : opN n l = n := by unfold opN; rw [hf]; rfl
    have hL : opL n l = oppL l := by unfold opL; rw [hf]; rfl
    rw [hL] at o1
    have heq := fun W (h1 : Ints W (.slice a l.length c) l) (h2 : Ints W (.slice p1 i1 q1) (oppL l)) => eqFunI_any n n _ _ l (oppL l) W h1 h2
    simp only [beq_self_eq_true, Bool.true_and, ← hx] at heq
    have HEQ := Lib.hid heq
    have ca : ∀ i, (w1.alloc (.cells #[.int .i64 n, .slice p1 i1 q1] 32)).cell? ⟨w.heap.size, i, none⟩ = (#[.int .i64 n, .slice a l.length c] : Array Value)[i]? := (K1.alloc _).cell
    rw [hN]
    have hv1 := hv.below B1 (Nat.le_refl _)
    clear hx hN hL heq hf
    have G1 := K1.cell
    go_wp2_with (go_at_call 212; refine (HEQ.out _ (hv1.alloc _) (o1.alloc _).ints).mono ?_; rintro e w2 ⟨rfl, hb2⟩)
    go_ret
    exact ⟨rfl, (B1.alloc B1.size _).after hb2 (B1.alloc B1.size _).size⟩

set_option maxHeartbeats 1000000 in
theorem canCut_any (n : Int) (l : List Int) (v : Value) (w : World) (hv : Ints w v l) (hl : l.length ≤ 1048576) :
    Calls Tryz.prog 288 #[.agg #[.int .i64 n, v]] w fun e w' => e = .returned (.bool (fitB n l)) ∧ Below w.heap.size w w' := by
  obtain ⟨a, c, rfl⟩ := hv.shape
  have K0 := Blk.new w 32 #[.int .i64 n, .slice a l.length c]
  go_enter Tryz.func288, Tryz.ntmps288
  go_wp2_with fail
  refine (isSubI_any n l _ _ (hv.alloc _) hl).mono ?_
  rintro e w1 ⟨rfl, hb1⟩
  have K1 := K0.keep hb1
  have B1 : Below w.heap.size w w1 := (bl1 _ _).after hb1 (by simp)
  clear hb1 K0
  cases hs : subB n l with
  | false =>
    have hx : fitB n l = false := by unfold fitB; rw [hs]; rfl
    have HX := Lib.hid hx
    clear hx hs
    go_wp2
    go_ret
    exact ⟨by rw [HX.out]; rfl, B1⟩
  | true =>
    have HS := Lib.hid hs
    clear hs
    have G1 := K1.cell
    go_wp2_with fail
    refine (symI_any n l _ _ (hv.below B1 (Nat.le_refl _)) hl).mono ?_
    rintro e w2 ⟨rfl, hb2⟩
    have K2 := K1.keep hb2
    have B2 := B1.after hb2 B1.size
    clear hb2 G1
    cases hy : symB n l with
    | false =>
      have hx : fitB n l = false := by unfold fitB; rw [HS.out, hy]; rfl
      have HX := Lib.hid hx
      clear hx hy
      go_wp2
      go_ret
      exact ⟨by rw [HX.out]; rfl, B2⟩
    | true =>
      have hx : fitB n l = decide (2 ≤ n) := by unfold fitB; rw [HS.out, hy]; rfl
      have HX := Lib.hid hx
      clear hx hy
      have G2 := K2.cell
      go_wp2
      go_ret
      exact ⟨by rw [HX.out]; rfl, B2⟩
end Go.Proofs.YtipejodijbjpcaaGreatDoor
end
section
namespace Go.Proofs.YtipejodijbjpcaaGreatDoor
open Go.RowKit Go.G5

theorem fit_fun {n : Int} {l : List Int} (h : fitB n l = true) : isFunB n l = true ∧ 2 ≤ n := by
  unfold fitB subB at h
  simp only [Bool.and_eq_true, decide_eq_true_eq] at h
  exact ⟨h.1.1.1, h.2⟩
theorem fit_size {n : Int} {l : List Int} (h : fitB n l = true) : 4 ≤ l.length ∧ l.length ≤ 32 ∧ (l.length : Int) = 2 ^ n.toNat ∧ n ≤ 5 ∧ ∀ k, (hk : k < l.length) → -1000 ≤ l[k] ∧ l[k] ≤ 1000 := by
  obtain ⟨h1, h2⟩ := fit_fun h
  obtain ⟨h0, h5, hlen, hlb⟩ := funOk h1
  obtain ⟨m, hm⟩ : ∃ m : Nat, n.toNat = m := ⟨_, rfl⟩
  have hm2 : 2 ≤ m ∧ m ≤ 5 := by omega
  have hp4 : (2 : Nat) ^ 2 ≤ 2 ^ m := Nat.pow_le_pow_right (by decide) hm2.1
  have hp5 : (2 : Nat) ^ m ≤ 2 ^ 5 := Nat.pow_le_pow_right (by decide) hm2.2
  have hln : l.length = 2 ^ m := by rw [hm] at hlen; exact_mod_cast hlen
  exact ⟨by omega, by omega, hlen, h5, hlb⟩

set_option maxHeartbeats 2000000 in
set_option maxRecDepth 100000 in
theorem minCutI_c (w : World) (n : Int) (v : Value) (l : List Int) (hv : Ints w v l) (hl : l.length ≤ 1048576) :
    Calls Tryz.prog 177 #[.agg #[.int .i64 n, v]] w fun e w' => e = .returned (.tuple #[.int .i64 (cutN n l), .int .i64 (cutS n l), .bool (fitB n l)]) ∧ Below w.heap.size w w' := by
  have hv0 := hv
  obtain ⟨a, b, off, c, rfl, hlen, hix, hc, hb⟩ := hv.view Tryz.prog 22 3 Tryz.underlying22 intElem
  have K0 := Blk.new w 32 #[.int .i64 n, .slice a l.length c]
  cases hf : fitB n l with
  | false =>
    have hN : cutN n l = 0 := by unfold cutN; rw [hf]; rfl
    have hS : cutS n l = 0 := by unfold cutS; rw [hf]; rfl
    have H := Lib.hid (And.intro hN hS)
    have HF := Lib.hid hf
    clear hN hS hf hc
    go_enter Tryz.func177, Tryz.ntmps177
    go_wp2_with (go_at_call 288; refine (canCut_any n l _ _ (hv0.alloc _) hl).mono ?_; rintro e w1 ⟨rfl, hb1⟩; rw [HF.out])
    go_ret3
    exact ⟨by rw [H.out.1, H.out.2]; rfl, (bl1 _ _).after hb1 (by simp)⟩
  | true =>
    obtain ⟨h4, h32, hpow, hn5, hlb⟩ := fit_size hf
    have hn0 : 0 ≤ n := by have := (fit_fun hf).2; omega
    have hN : cutN n l = l.getD (bestTo l (l.length - 1)) 0 := by unfold cutN; rw [hf]; rfl
    have hS : cutS n l = (bestTo l (l.length - 1) : Int) := by unfold cutS; rw [hf]; rfl
    have H := Lib.hid (And.intro hN hS)
    have HF := Lib.hid hf
    have HLB := Lib.hid hlb
    have HC := Lib.hid hc
    have HIX := Lib.hid hix
    have HPW := Lib.hid hpow
    have HAL := Lib.hid (fun (W : World) (hW : Ints W (.slice a l.length c) l) => allOf_any n (.slice a l.length c) l W hW hn0 (by omega))
    clear hN hS hf hlb hc hix hpow
    go_enter Tryz.func177, Tryz.ntmps177
    go_wp2_with fail
    refine (canCut_any n l _ _ (hv0.alloc _) hl).mono ?_
    rintro e w1 ⟨rfl, hb1⟩
    rw [HF.out]
    have K1 := K0.keep hb1
    have B1 : Below w.heap.size w w1 := (bl1 _ _).after hb1 (by simp)
    clear K0 hb1
    go_wp2_with fail
    go_loopw [5, 6] (fun bst i wr => ∃ k : Nat, 2 ≤ k ∧ k ≤ l.length - 1 ∧ i = .int .i64 k ∧ bst = .int .i64 (bestTo l k : Int) ∧ Below w.heap.size w wr ∧ Blk wr w.heap.size 32 #[.int .i64 n, .slice a l.length c]) (fun _ i _ => l.length - (intOf i).toNat)
    case atStart => exact ⟨2, by omega, by omega, rfl, rfl, B1, K1⟩
    case round =>
      obtain ⟨k, hk2, hk, rfl, rfl, B, K⟩ := hrel
      have G1 := K.cell
      have hbk := bestTo_lt l k hk2
      obtain ⟨p, hp⟩ : ∃ p, p = bestTo l k := ⟨_, rfl⟩
      rw [← hp] at hbk ⊢
      have cp := HC.out p (by omega)
      have cp2 := cells_below HC.out hb B (Nat.le_refl _) p (by omega)
      have ip := fun W => HIX.out W p (by omega)
      by_cases hlt : k < l.length - 1
      · have hst := bestTo_succ l k hk2
        rw [← hp, getD_at l k (by omega), getD_at l p (by omega)] at hst
        have ck := cells_below HC.out hb B (Nat.le_refl _) k (by omega)
        have ik := fun W => HIX.out W k (by omega)
        obtain ⟨x, hx⟩ : ∃ x, x = l[k] := ⟨_, rfl⟩
        obtain ⟨y, hy⟩ : ∃ x, x = l[p] := ⟨_, rfl⟩
        rw [← hx] at ck hst
        rw [← hy] at cp2 hst
        have hlt2 : (k : Int) < 2 ^ n.toNat - 1 := by rw [← HPW.out]; omega
        have HST := Lib.hid hst
        clear hst hp hx hy cp
        go_wp2_with fail
        refine (HAL.out _ (hv0.below B (Nat.le_refl _))).mono ?_
        rintro e w3 ⟨rfl, hb3⟩
        have B3 := B.after hb3 B.size
        have K3 := K.keep hb3
        have ck := keep hb3 ck
        have cp2 := keep hb3 cp2
        clear G1 hb3
        have G3 := K3.cell
        by_cases hxy : x < y
        · have HS2 := Lib.hid (HST.out.trans (if_pos hxy))
          go_wp2_with fail
          go_quiet (fail)
          go_wp2
          go_roundw
          case rel => exact ⟨k + 1, by omega, by omega, by go_num, by rw [HS2.out], B3.drewN' _, K3.drewN _⟩
          case measure => simp [intOf]; omega
        · have HS2 := Lib.hid (HST.out.trans (if_neg hxy))
          go_wp2_with fail
          go_quiet (fail)
          go_wp2
          go_roundw
          case rel => exact ⟨k + 1, by omega, by omega, by go_num, by rw [HS2.out], B3.drewN' _, K3.drewN _⟩
          case measure => simp [intOf]; omega
      · have hkl : k = l.length - 1 := by omega
        have hlt2 : ¬ (k : Int) < 2 ^ n.toNat - 1 := by rw [← HPW.out]; omega
        have hg : l.getD p 0 = l[p] := getD_at l p (by omega)
        obtain ⟨y, hy⟩ : ∃ x, x = l[p] := ⟨_, rfl⟩
        rw [← hy] at cp2 hg
        have HP := Lib.hid hp
        have HG := Lib.hid hg
        have HKL := Lib.hid hkl
        clear hp hg hkl hy cp
        go_wp2_with fail
        refine (HAL.out _ (hv0.below B (Nat.le_refl _))).mono ?_
        rintro e w3 ⟨rfl, hb3⟩
        have B3 := B.after hb3 B.size
        have K3 := K.keep hb3
        have cp2 := keep hb3 cp2
        clear G1 hb3
        have G3 := K3.cell
        go_wp2
        go_ret3
        exact ⟨by rw [H.out.1, H.out.2, ← HKL.out, ← HP.out, HG.out]; rfl, B3⟩
end Go.Proofs.YtipejodijbjpcaaGreatDoor
end
