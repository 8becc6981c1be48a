/- Minimum cuts: the first program. Minimum cuts: the first program's search, and claims of it. Minimum cuts: the second program. -/
import Derived.Test.YtpaoiiiceekkkaaDoorQ21
import Derived.Deep.RegionHeld3
section
namespace Go.Proofs.YtpaoiiiceekkkaaDoor
open Go.RowKit Go.G5

set_option maxHeartbeats 1000000 in
set_option maxRecDepth 100000 in
theorem oppClosure (n : Nat) (hn : n ≤ 5) (l : List Int) (v : Value) (g s : Nat) (W : World) (hv : Ints W v l) (hl : l.length = 2 ^ n) (hs : s < 2 ^ n) (c0 : W.cell? ⟨g, 0, none⟩ = some (.int .i64 n)) (c1 : W.cell? ⟨g, 1, none⟩ = some v) :
    Calls Tryd.prog 181 #[.int .i64 s, .pointer (some ⟨g, 0, none⟩)] W fun e w' => e = .returned (.int .i64 (oppF l s)) ∧ Below W.heap.size W w' := by
  have hv0 := hv
  obtain ⟨a, b, off, c, rfl, hlen, hix, hc, hb⟩ := hv.view Tryd.prog 22 3 Tryd.underlying22 intElem
  have hf := oppF_at l s (by omega)
  have p5 : (2 : Nat) ^ n ≤ 32 := Nat.pow_le_pow_right (n := 2) (by decide) hn
  have hd := ndiff_full n hn s hs
  have hbits := bitsN (2 ^ n - 1) s (by omega) (by omega)
  rw [hd] at hbits
  have hpn := Nat.two_pow_pos n
  have hcast : ((2 ^ n - 1 : Nat) : Int) = (2 : Int) ^ n - 1 := by rw [Int.ofNat_sub hpn]; simp
  rw [hcast] at hbits
  have hck := hc (l.length - 1 - s) (by omega)
  have hixk := fun W => hix W (l.length - 1 - s) (by omega)
  rw [← hf] at hck
  rw [hl] at hck hixk
  have e0 : ∀ x : Ext W, x.w.cell? ⟨g, 0, none⟩ = some (.int .i64 n) := fun x => x.cell c0
  have e1 : ∀ x : Ext W, x.w.cell? ⟨g, 1, none⟩ = some (.slice a l.length c) := fun x => x.cell c1
  have e2 : ∀ x : Ext W, x.w.cell? ⟨b, off + (2 ^ n - 1 - s), none⟩ = some (.int .i64 (oppF l s)) := fun x => x.cell hck
  obtain ⟨q, hq⟩ : ∃ q, q = oppF l s := ⟨_, rfl⟩
  rw [← hq] at e2
  obtain ⟨m, hm⟩ : ∃ m, m = 2 ^ n - 1 - s := ⟨_, rfl⟩
  simp only [← hm] at hixk e2 hbits
  have HQ := Lib.hid hq
  have HAL := Lib.hid (fun (x : Ext W) => allOf_any (n : Int) (.slice a l.length c) l x.w (x.ints hv0) (by omega) (by omega))
  have hL : l.length = 2 ^ n := hl
  rw [← hL] at hixk
  have HLL := Lib.hid hl
  clear hc hix hb hf hd hck hq hm hcast hl hL
  go_enter Tryd.func181, Tryd.ntmps181
  go_wp2_with fail
  refine wp_region_ext _ (by kernel_rfl) (by kernel_rfl) ?_
  repeat (first | go_big_quiet_skip | (go_big_quiet_want; go_big_quiet_op; first | go_big_quiet_on | (apply Exists.intro; refine ⟨fun _ => ?_, ?_⟩; (go_at_call 152; exact ext_call (HAL.out _)); go_big_quiet_on)))
  refine wpQuiet_nil ?_
  rintro w3 ⟨⟨w3, hb3⟩, rfl⟩
  try dsimp only
  go_wp2
  go_ret
  exact ⟨ret_int HQ.out, hb3⟩
theorem oppClosure_enters : ∀ args w, (callFunc 181 args).run Tryd.prog w = .ok (.enter 181 args) w := enters_of Tryd.func181 (by kernel_rfl) rfl

set_option maxHeartbeats 1000000 in
set_option maxRecDepth 100000 in
theorem oppI_c (w : World) (n : Int) (v : Value) (l : List Int) (hv : Ints w v l) (_ : l.length ≤ 1048576) :
    Calls Tryd.prog 134 #[.agg #[.int .i64 n, v]] w fun e w' => ∃ ad i cp, e = .returned (.tuple #[.agg #[.int .i64 (opN n l), .slice ad i cp], .bool (isFunB n l)]) ∧ OwnI 3 w.heap.size w' (.slice ad i cp) (opL n l) ∧ Below w.heap.size w w' := by
  obtain ⟨a, c, rfl⟩ := hv.shape
  have hmf : ∀ (fn : Fn) (first cap : Array Value) (w : World), (Instr.makeFunc fn first cap).run Tryd.prog w = .ok (.func fn first cap) w := fun _ _ _ _ => rfl
  go_enter Tryd.func134, Tryd.ntmps134
  go_wp2_with fail
  refine calls_named ?_
  intro V hV
  have B : Below w.heap.size w V := by rw [hV]; exact bl2 _ _ _
  have K1 : Blk V w.heap.size 31 #[.int .i64 n, .slice a l.length c] := by rw [hV]; exact (Blk.new _ _ _).alloc _
  have K2 : Blk V (w.heap.size + 1) 31 #[.int .i64 0, .slice none 0 0] := by rw [hV]; have := Blk.new (w.alloc (.cells #[.int .i64 n, .slice a l.length c] 31)) 31 #[.int .i64 0, .slice none 0 0]; simpa using this
  clear hV
  refine (isFunI_any n l _ _ (hv.below B (Nat.le_refl _))).mono ?_
  rintro e w1 ⟨rfl, hb1⟩
  have K1 := K1.keep hb1
  have K2 := K2.keep hb1
  have B1 := B.after hb1 B.size
  have hv1 := hv.below B1 (Nat.le_refl _)
  clear B hb1
  have G1 := K1.cell
  have z1 := K1.lt
  have z2 := K2.lt
  cases hf : isFunB n l with
  | false =>
    have hN : opN n l = 0 := by unfold opN; rw [hf]; rfl
    have hL : opL n l = [] := by unfold opL; rw [hf]; rfl
    have HN := Lib.hid hN
    have HL := Lib.hid hL
    have HF := Lib.hid hf
    have G2 := K2.cell
    have F2 := K2.frozen
    clear hN hL
    go_wp2
    refine post_named ?_
    intro Wf hWf
    have K2f : Blk Wf (w.heap.size + 1) 31 #[.int .i64 0, .slice none 0 0] := by
      rw [hWf]
      have := (K2.set 0 (.int .i64 0)).set 1 (.slice none 0 0)
      simpa using this
    have Bf : Below w.heap.size w Wf := by rw [hWf]; exact Below.setCell (Below.setCell B1 (by first | omega | (simp; done) | (simp; omega)) _) (by first | omega | (simp; done) | (simp; omega)) _
    have Gf := K2f.cell
    clear hWf G1 G2 F2
    exact bodyPost_ret (v := .tuple #[.agg #[.int .i64 0, .slice none 0 0], .bool false]) (by simp [results, Tryd.results134, go_sem, Gf]) rfl ⟨none, 0, 0, by rw [HN.out, HF.out], by rw [HL.out]; exact OwnI.nil _ _ _, Bf⟩
  | true =>
    obtain ⟨h0, h5, hlen, hlb⟩ := funOk hf
    obtain ⟨N, rfl⟩ := Int.eq_ofNat_of_zero_le h0
    have hN5 : N ≤ 5 := by omega
    have hl2 : l.length = 2 ^ N := by
      have e2 : (N : Int).toNat = N := by omega
      rw [e2] at hlen
      exact_mod_cast hlen
    have hN : opN N l = N := by unfold opN; rw [hf]; rfl
    have hL : opL N l = oppL l := by unfold opL; rw [hf]; rfl
    have hmade : madeL (oppF l) (2 ^ N) = oppL l := by unfold oppL; rw [hl2]
    have hfo : isFunB N (madeL (oppF l) (2 ^ N)) = true := by rw [hmade]; exact opp_fun N l hf
    have hmk : ∀ W, Ints W (.slice a l.length c) l → W.cell? ⟨w.heap.size, 0, none⟩ = some (.int .i64 N) → W.cell? ⟨w.heap.size, 1, none⟩ = some (.slice a l.length c) → Calls Tryd.prog 179 #[.int .i64 N, .func (.func 181) #[] #[.pointer (some ⟨w.heap.size, 0, none⟩)]] W fun e w' =>
        ∃ ad i cp, e = .returned (.tuple #[.agg #[.int .i64 N, .slice ad i cp], .bool true]) ∧ OwnI 3 W.heap.size w' (.slice ad i cp) (oppL l) ∧ Below W.heap.size W w' := fun W hW c0 c1 => by
      have := makeFunction_any W N hN5 181 oppClosure_enters w.heap.size (oppF l) (fun s hs => by rw [oppF_at l s (by omega)]; have := hlb (l.length - 1 - s) (by omega); exact ⟨by omega, by omega⟩)
        (fun s W' hs hB => oppClosure N hN5 l _ w.heap.size s W' (hW.keep hB) hl2 hs (keep hB c0) (keep hB c1))
      rw [hfo, if_pos rfl, if_pos rfl, hmade] at this
      exact this
    have HN := Lib.hid hN
    have HL := Lib.hid hL
    have HF := Lib.hid hf
    have HMK := Lib.hid hmk
    clear hN hL hf hmade hfo hmk hl2 hlen hlb
    go_wp2_with fail
    refine (HMK.out _ hv1 (G1 0) (G1 1)).mono ?_
    rintro e w3 ⟨p3, i3, q3, rfl, o3, hb3⟩
    have K2 := K2.keep hb3
    have B3 := B1.after hb3 B1.size
    have G2 := K2.cell
    have F2 := K2.frozen
    have z3 := K2.lt
    clear G1 hb3
    go_wp2
    refine post_named ?_
    intro Wf hWf
    have K2f : Blk Wf (w.heap.size + 1) 31 #[.int .i64 N, .slice p3 i3 q3] := by
      rw [hWf]
      have := (K2.set 0 (.int .i64 N)).set 1 (.slice p3 i3 q3)
      simpa using this
    have Bf : Below w.heap.size w Wf := by rw [hWf]; exact Below.setCell (Below.setCell B3 (by first | omega | (simp; done) | (simp; omega)) _) (by first | omega | (simp; done) | (simp; omega)) _
    have of : OwnI 3 w.heap.size Wf (.slice p3 i3 q3) (oppL l) := by rw [hWf]; exact ((o3.setBelow (by first | omega | (simp; done) | (simp; omega)) _).setBelow (by first | omega | (simp; done) | (simp; omega)) _).mono (by first | omega | (simp; done) | (simp; omega))
    have Gf := K2f.cell
    clear hWf G2 F2
    exact bodyPost_ret (v := .tuple #[.agg #[.int .i64 N, .slice p3 i3 q3], .bool true]) (by simp [results, Tryd.results134, go_sem, Gf]) rfl ⟨p3, i3, q3, by rw [HN.out, HF.out], by rw [HL.out]; exact of, Bf⟩

set_option maxHeartbeats 1000000 in
theorem eqFunI_any (n n' : Int) (v v' : Value) (l l' : List Int) (w : World) (hv : Ints w v l) (hv' : Ints w v' l') :
    Calls Tryd.prog 135 #[.agg #[.int .i64 n, v], .agg #[.int .i64 n', v']] w fun e w' => e = .returned (.bool (n == n' && decide (l = l'))) ∧ Below w.heap.size w w' := by
  obtain ⟨a, c, rfl⟩ := hv.shape
  obtain ⟨a', c', rfl⟩ := hv'.shape
  cases h : (n == n') with
  | false =>
    go_enter Tryd.func135, Tryd.ntmps135
    go_wp2
    go_ret
    exact ⟨rfl, bl2 _ _ _⟩
  | true =>
    go_enter Tryd.func135, Tryd.ntmps135
    go_wp2_with (go_at_call 182; refine (slicesEqual_any _ _ l l' _ ((hv.alloc _).alloc _) ((hv'.alloc _).alloc _)).mono ?_; rintro e w2 ⟨rfl, nn, rfl⟩)
    go_ret
    exact ⟨rfl, (bl2 _ _ _).drewN' _⟩

set_option maxHeartbeats 1000000 in
set_option maxRecDepth 100000 in
theorem symI_any (n : Int) (l : List Int) (v : Value) (w : World) (hv : Ints w v l) (hl : l.length ≤ 1048576) :
    Calls Tryd.prog 68 #[.agg #[.int .i64 n, v]] w fun e w' => e = .returned (.bool (symB n l)) ∧ Below w.heap.size w w' := by
  obtain ⟨a, c, rfl⟩ := hv.shape
  have K0 := Blk.new w 31 #[.int .i64 n, .slice a l.length c]
  go_enter Tryd.func68, Tryd.ntmps68
  go_wp2_with fail
  refine (oppI_c _ n _ l (hv.alloc _) hl).mono ?_
  rintro e w1 ⟨p1, i1, q1, rfl, o1, hb1⟩
  have K1 := K0.keep hb1
  have B1 : Below w.heap.size w w1 := (bl1 _ _).after hb1 (by simp)
  have y1 := B1.size
  have z1 := K1.lt
  cases hf : isFunB n l with
  | false =>
    have hx : symB n l = false := by unfold symB; rw [hf]; rfl
    have HX := Lib.hid hx
    clear hx hf
    go_wp2
    go_ret
    exact ⟨by rw [HX.out]; rfl, (by repeat (first | exact Below.refl _ _ | (with_reducible refine Below.setCell ?_ (by first | omega | (simp; done) | (simp; omega)) _) | (with_reducible refine Below.alloc ?_ (by first | omega | (simp; done) | (simp; omega)) _) | (with_reducible refine Below.drewN' ?_ _) | (with_reducible refine Below.drew ?_) | (with_reducible assumption) | refine Below.trans ?_ (Below.mono (by assumption) (by first | omega | (simp; done) | (simp; omega)))))⟩
  | true =>
    have hx : symB n l = decide (l = oppL l) := by unfold symB; rw [hf]; rfl
    have hN : opN n l = n := by unfold opN; rw [hf]; rfl
    have hL : opL n l = oppL l := by unfold opL; rw [hf]; rfl
    rw [hL] at o1
    have heq := fun W (h1 : Ints W (.slice a l.length c) l) (h2 : Ints W (.slice p1 i1 q1) (oppL l)) => eqFunI_any n n _ _ l (oppL l) W h1 h2
    simp only [beq_self_eq_true, Bool.true_and, ← hx] at heq
    have HEQ := Lib.hid heq
    have ca : ∀ i, (w1.alloc (.cells #[.int .i64 n, .slice p1 i1 q1] 31)).cell? ⟨w.heap.size, i, none⟩ = (#[.int .i64 n, .slice a l.length c] : Array Value)[i]? := (K1.alloc _).cell
    rw [hN]
    have hv1 := hv.below B1 (Nat.le_refl _)
    clear hx hN hL heq hf
    have G1 := K1.cell
    go_wp2_with (go_at_call 135; refine (HEQ.out _ (hv1.alloc _) (o1.alloc _).ints).mono ?_; rintro e w2 ⟨rfl, hb2⟩)
    go_ret
    exact ⟨rfl, (B1.alloc B1.size _).after hb2 (B1.alloc B1.size _).size⟩

end Go.Proofs.YtpaoiiiceekkkaaDoor
end
section
namespace Go.Proofs.YtpaoiiiceekkkaaDoor
open Go.RowKit Go.G5

theorem fit_fun {n : Int} {l : List Int} (h : fitB n l = true) : isFunB n l = true ∧ 2 ≤ n := by
  unfold fitB subB at h
  simp only [Bool.and_eq_true, decide_eq_true_eq] at h
  exact ⟨h.1.1.1, h.2⟩
theorem fit_size {n : Int} {l : List Int} (h : fitB n l = true) : 4 ≤ l.length ∧ l.length ≤ 32 ∧ (l.length : Int) = 2 ^ n.toNat ∧ n ≤ 5 ∧ ∀ k, (hk : k < l.length) → -1000 ≤ l[k] ∧ l[k] ≤ 1000 := by
  obtain ⟨h1, h2⟩ := fit_fun h
  obtain ⟨h0, h5, hlen, hlb⟩ := funOk h1
  obtain ⟨m, hm⟩ : ∃ m : Nat, n.toNat = m := ⟨_, rfl⟩
  have hm2 : 2 ≤ m ∧ m ≤ 5 := by omega
  have hp4 : (2 : Nat) ^ 2 ≤ 2 ^ m := Nat.pow_le_pow_right (by decide) hm2.1
  have hp5 : (2 : Nat) ^ m ≤ 2 ^ 5 := Nat.pow_le_pow_right (by decide) hm2.2
  have hln : l.length = 2 ^ m := by rw [hm] at hlen; exact_mod_cast hlen
  exact ⟨by omega, by omega, hlen, h5, hlb⟩

end Go.Proofs.YtpaoiiiceekkkaaDoor
end
section
namespace Go.Proofs.YtpaoiiiceekkkaaDoor
open Go.RowKit Go.G5

set_option maxHeartbeats 2000000 in
set_option maxRecDepth 100000 in
theorem oppS_c (w : World) (n : Int) (v : Value) (l : List Int) (hv : Ints w v l) (_ : l.length ≤ 1048576) :
    Calls Tryd.prog 121 #[.agg #[.int .i64 n, v]] w fun e w' => ∃ ad i cp, e = .returned (.tuple #[.agg #[.int .i64 (opN n l), .slice ad i cp], .bool (isFunB n l)]) ∧ OwnI 3 w.heap.size w' (.slice ad i cp) (opL n l) ∧ Below w.heap.size w w' := by
  obtain ⟨a, b, off, c, rfl, hlen, hix, hc, hb⟩ := hv.view Tryd.prog 22 3 Tryd.underlying22 intElem
  go_enter Tryd.func121, Tryd.ntmps121
  go_wp2_with fail
  refine calls_named ?_
  intro V hV
  have B : Below w.heap.size w V := by rw [hV]; exact bl2 _ _ _
  have K1 : Blk V w.heap.size 31 #[.int .i64 n, .slice a l.length c] := by rw [hV]; exact (Blk.new _ _ _).alloc _
  have K2 : Blk V (w.heap.size + 1) 31 #[.int .i64 0, .slice none 0 0] := by rw [hV]; have := Blk.new (w.alloc (.cells #[.int .i64 n, .slice a l.length c] 31)) 31 #[.int .i64 0, .slice none 0 0]; simpa using this
  clear hV
  refine (isFunS_any n l _ _ (hv.below B (Nat.le_refl _))).mono ?_
  rintro e w1 ⟨rfl, hb1⟩
  have K1 := K1.keep hb1
  have K2 := K2.keep hb1
  have B1 := B.after hb1 B.size
  have hv1 := hv.below B1 (Nat.le_refl _)
  clear B hb1
  have G1 := K1.cell
  have z1 := K1.lt
  have z2 := K2.lt
  cases hf : isFunB n l with
  | false =>
    have hN : opN n l = 0 := by unfold opN; rw [hf]; rfl
    have hL : opL n l = [] := by unfold opL; rw [hf]; rfl
    have HN := Lib.hid hN
    have HL := Lib.hid hL
    have HF := Lib.hid hf
    have G2 := K2.cell
    have F2 := K2.frozen
    clear hN hL
    go_wp2
    refine post_named ?_
    intro Wf hWf
    have K2f : Blk Wf (w.heap.size + 1) 31 #[.int .i64 0, .slice none 0 0] := by
      rw [hWf]
      have := (K2.set 0 (.int .i64 0)).set 1 (.slice none 0 0)
      simpa using this
    have Bf : Below w.heap.size w Wf := by rw [hWf]; exact Below.setCell (Below.setCell B1 (by first | omega | (simp; done) | (simp; omega)) _) (by first | omega | (simp; done) | (simp; omega)) _
    have Gf := K2f.cell
    clear hWf G1 G2 F2
    exact bodyPost_ret (v := .tuple #[.agg #[.int .i64 0, .slice none 0 0], .bool false]) (by simp [results, Tryd.results121, go_sem, Gf]) rfl ⟨none, 0, 0, by rw [HN.out, HF.out], by rw [HL.out]; exact OwnI.nil _ _ _, Bf⟩
  | true =>
    obtain ⟨h0, h5, hlen2, hlb⟩ := funOk hf
    have hl32 : l.length ≤ 32 := by
      have hp := (pow_le32 h0 h5).1
      omega
    have hN : opN n l = n := by unfold opN; rw [hf]; rfl
    have hL : opL n l = madeL (oppF l) l.length := by unfold opL; rw [hf]; rfl
    have HN := Lib.hid hN
    have HL := Lib.hid hL
    have HF := Lib.hid hf
    have HLB := Lib.hid hlb
    have o0 := OwnI.lit0 (E := 3) (B := w1.heap.size) w1 (Nat.le_refl _)
    clear hN hL hf hlen2 hlb
    go_wp2_with fail
    go_loopw [4, 5] (fun out i wr => ∃ (k : Nat) (ad : Option Addr) (nn cp : Nat), k ≤ l.length ∧ out = .slice ad nn cp ∧ i = .int .i64 k ∧ OwnI 3 w1.heap.size wr (.slice ad nn cp) (madeL (oppF l) k) ∧ Below w1.heap.size w1 wr)
      (fun _ i _ => l.length - (intOf i).toNat)
    case atStart => exact ⟨0, _, _, _, Nat.zero_le _, rfl, rfl, o0, bl1 _ _⟩
    case round =>
      obtain ⟨k, ad, nn, cp, hk, rfl, rfl, ho, B⟩ := hrel
      have HO := Lib.hid ho
      have Kr := K1.keep B
      clear ho o0 G1
      have G1 := Kr.cell
      have yB := B.size
      by_cases hlt : k < l.length
      · have hms := madeL_succ (oppF l) k
        have hof := oppF_at l k hlt
        have ck := cells_below hc hb (B1.after B B1.size) (Nat.le_refl _) (l.length - 1 - k) (by omega)
        have ik := fun W => hix W (l.length - 1 - k) (by omega)
        have hbd := HLB.out (l.length - 1 - k) (by omega)
        have hw1 : IntKind.i64.wrap ((l.length : Int) - 1) = (l.length : Int) - 1 := by rw [IntKind.wrap_i64]; omega
        have hw2 : IntKind.i64.wrap ((l.length : Int) - 1 - k) = ((l.length - 1 - k : Nat) : Int) := by rw [IntKind.wrap_i64]; omega
        rw [← hof] at ck hbd
        obtain ⟨x, hx⟩ : ∃ x, x = oppF l k := ⟨_, rfl⟩
        rw [← hx] at ck hbd hms
        have hml : (madeL (oppF l) k).length ≤ 32 := by unfold madeL; simp; omega
        have HMS := Lib.hid hms
        have hx0 := hbd.1
        have hx1 := hbd.2
        clear hms hof hx hbd
        go_wp2_with (at_builtin; refine wpList_appendN1 rfl _ _ _ rfl 3 Tryd.underlying22 intElem w1.heap.size _ _ x wr.heap.size rfl rfl (cell_new wr #[.int .i64 x] 3 0 _ rfl) (HO.out.alloc _) ⟨by omega, by omega⟩ (by omega) (by simp; omega) ?_; intro v' w6 hown hgr hnb; obtain ⟨av, nv, cv, rfl⟩ := hown.shape3)
        have B6 : Below w1.heap.size w1 w6 := (B.alloc B.size (.cells #[.int .i64 x] 3)).grown hgr (by simp; omega) (fun q hq => (HO.out.lt q hq).1)
        go_roundw
        case rel => exact ⟨k + 1, av, nv, cv, by omega, rfl, by go_num, by rw [HMS.out]; exact hown, B6⟩
        case measure => simp [intOf]; omega
      · have hkl : k = l.length := by omega
        subst hkl
        have K2 := K2.keep B
        have B7 := B1.after B B1.size
        have G2 := K2.cell
        have F2 := K2.frozen
        have z2f := K2.lt
        go_wp2
        refine post_named ?_
        intro Wf hWf
        have K2f : Blk Wf (w.heap.size + 1) 31 #[.int .i64 n, .slice ad nn cp] := by
          rw [hWf]
          have := (K2.set 0 (.int .i64 n)).set 1 (.slice ad nn cp)
          simpa using this
        have Bf : Below w.heap.size w Wf := by rw [hWf]; exact Below.setCell (Below.setCell B7 (by first | omega | (simp; done) | (simp; omega)) _) (by first | omega | (simp; done) | (simp; omega)) _
        have of : OwnI 3 w.heap.size Wf (.slice ad nn cp) (madeL (oppF l) l.length) := by rw [hWf]; exact ((HO.out.setBelow (by first | omega | (simp; done) | (simp; omega)) _).setBelow (by first | omega | (simp; done) | (simp; omega)) _).mono (by first | omega | (simp; done) | (simp; omega))
        have Gf := K2f.cell
        clear hWf G1 G2 F2
        exact bodyPost_ret (v := .tuple #[.agg #[.int .i64 n, .slice ad nn cp], .bool true]) (by simp [results, Tryd.results121, go_sem, Gf]) rfl ⟨ad, nn, cp, by rw [HN.out, HF.out], by rw [HL.out]; exact of, Bf⟩

set_option maxHeartbeats 1000000 in
set_option maxRecDepth 100000 in
theorem symS_any (n : Int) (l : List Int) (v : Value) (w : World) (hv : Ints w v l) (hl : l.length ≤ 1048576) :
    Calls Tryd.prog 52 #[.agg #[.int .i64 n, v]] w fun e w' => e = .returned (.bool (symB n l)) ∧ Below w.heap.size w w' := by
  obtain ⟨a, c, rfl⟩ := hv.shape
  have K0 := Blk.new w 31 #[.int .i64 n, .slice a l.length c]
  go_enter Tryd.func52, Tryd.ntmps52
  go_wp2_with fail
  refine (oppS_c _ n _ l (hv.alloc _) hl).mono ?_
  rintro e w1 ⟨p1, i1, q1, rfl, o1, hb1⟩
  have K1 := K0.keep hb1
  have B1 : Below w.heap.size w w1 := (bl1 _ _).after hb1 (by simp)
  have y1 := B1.size
  have z1 := K1.lt
  cases hf : isFunB n l with
  | false =>
    have hx : symB n l = false := by unfold symB; rw [hf]; rfl
    have HX := Lib.hid hx
    clear hx hf
    go_wp2
    go_ret
    exact ⟨by rw [HX.out]; rfl, (by repeat (first | exact Below.refl _ _ | (with_reducible refine Below.setCell ?_ (by first | omega | (simp; done) | (simp; omega)) _) | (with_reducible refine Below.alloc ?_ (by first | omega | (simp; done) | (simp; omega)) _) | (with_reducible refine Below.drewN' ?_ _) | (with_reducible refine Below.drew ?_) | (with_reducible assumption) | refine Below.trans ?_ (Below.mono (by assumption) (by first | omega | (simp; done) | (simp; omega)))))⟩
  | true =>
    have hx : symB n l = decide (l = oppL l) := by unfold symB; rw [hf]; rfl
    have hL : opL n l = oppL l := by unfold opL; rw [hf]; rfl
    rw [hL] at o1
    have heq := fun W (h1 : Ints W (.slice a l.length c) l) (h2 : Ints W (.slice p1 i1 q1) (oppL l)) => l2Same_any _ _ l (oppL l) W h1 h2
    simp only [← hx] at heq
    have HEQ := Lib.hid heq
    obtain ⟨N, hN⟩ : ∃ N, N = opN n l := ⟨_, rfl⟩
    rw [← hN]
    have hv1 := hv.below B1 (Nat.le_refl _)
    clear hx hN hL heq hf
    have G1 := K1.cell
    go_wp2_with (go_at_call 122; refine (HEQ.out _ (hv1.alloc _) (o1.alloc _).ints).mono ?_; rintro e w2 ⟨rfl, nn, rfl⟩)
    go_ret
    exact ⟨rfl, (B1.alloc B1.size _).drewN' _⟩

end Go.Proofs.YtpaoiiiceekkkaaDoor
end
