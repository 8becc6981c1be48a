/- Dual functions and dual ranks: the first program. -/
import Derived.Test.YtdagcdgbdhecgaaGreatQ19
section
namespace Go.Proofs.YtdagcdgbdhecgaaGreat
open Go.RowKit Go.G5

/-- the value of a set under the dual function -/
def duF (x l : List Int) (s : Nat) : Int := wt x (s : Int) + l.getD (l.length - 1 - s) 0 - l.getD (l.length - 1) 0
def duL (x l : List Int) : List Int := madeL (duF x l) l.length
set_option maxHeartbeats 1000000 in
set_option maxRecDepth 100000 in
theorem duClosure (n : Nat) (hn : n ≤ 5) (l x : List Int) (v u : Value) (g h s : Nat) (W : World) (hv : Ints W v l) (hu : Ints W u x) (hl : l.length = 2 ^ n) (hs : s < 2 ^ n)
    (hlb : ∀ k, (hk : k < l.length) → -1000 ≤ l[k] ∧ l[k] ≤ 1000) (hx5 : x.length ≤ 5) (hxb : ∀ k, (hk : k < x.length) → -1000 ≤ x[k] ∧ x[k] ≤ 1000)
    (d0 : W.cell? ⟨h, 0, none⟩ = some u) (c0 : W.cell? ⟨g, 0, none⟩ = some (.int .i64 n)) (c1 : W.cell? ⟨g, 1, none⟩ = some v) :
    Calls Tryz.prog 52 #[.int .i64 (s : Int), .pointer (some ⟨h, 0, none⟩), .pointer (some ⟨g, 0, none⟩)] W fun e w' => e = .returned (.int .i64 (duF x l s)) ∧ Below W.heap.size W w' := by
  have hv0 := hv
  obtain ⟨a, b, off, c, rfl, hlen, hix, hc, hb⟩ := hv.view Tryz.prog 30 3 Tryz.underlying30 intElem
  obtain ⟨au, cu, rfl⟩ := hu.shape
  have p5 : (2 : Nat) ^ n ≤ 32 := Nat.pow_le_pow_right (n := 2) (by decide) hn
  have hpn := Nat.two_pow_pos n
  have hd := ndiff_full n hn s hs
  have hbits := bitsN (2 ^ n - 1) s (by omega) (by omega)
  rw [hd] at hbits
  have hcast : ((2 ^ n - 1 : Nat) : Int) = (2 : Int) ^ n - 1 := by rw [Int.ofNat_sub hpn]; simp
  rw [hcast] at hbits
  have hck := hc (l.length - 1 - s) (by omega)
  have hixk := fun W => hix W (l.length - 1 - s) (by omega)
  have hcf := hc (l.length - 1) (by omega)
  have hixf := fun W => hix W (l.length - 1) (by omega)
  have hb1 := hlb (l.length - 1 - s) (by omega)
  have hb2 := hlb (l.length - 1) (by omega)
  have hf : duF x l s = wt x (s : Int) + l[l.length - 1 - s] - l[l.length - 1] := by
    unfold duF
    rw [getD_at l _ (by omega), getD_at l _ (by omega)]
  have hwb := wtTo_bd x (s : Int) (fun k hk => by have := hxb k hk; omega) x.length (Nat.le_refl _)
  have hw : -5000000 ≤ wt x (s : Int) ∧ wt x (s : Int) ≤ 5000000 := by unfold wt; omega
  clear hwb
  obtain ⟨y, hy⟩ : ∃ y, y = l[l.length - 1 - s] := ⟨_, rfl⟩
  obtain ⟨z, hz⟩ : ∃ z, z = l[l.length - 1] := ⟨_, rfl⟩
  rw [← hy] at hck hb1 hf
  rw [← hz] at hcf hb2 hf
  rw [hl] at hck hixk hcf hixf
  rw [hcast] at hixf
  have HW := Lib.hid (fun y : Ext W => weightOf_any x (.slice au x.length cu) (s : Int) y.w (y.ints hu) (by omega) (by omega) (fun k hk => by have := hxb k hk; omega) (by omega))
  obtain ⟨q, hq⟩ : ∃ q, q = wt x (s : Int) := ⟨_, rfl⟩
  rw [← hq] at hw hf
  simp only [← hq] at HW
  have e0 : ∀ x : Ext W, x.w.cell? ⟨g, 0, none⟩ = some (.int .i64 n) := fun x => x.cell c0
  have e1 : ∀ x : Ext W, x.w.cell? ⟨g, 1, none⟩ = some (.slice a l.length c) := fun x => x.cell c1
  have e2 : ∀ z : Ext W, z.w.cell? ⟨h, 0, none⟩ = some (.slice au x.length cu) := fun x => x.cell d0
  have e3 : ∀ x : Ext W, x.w.cell? ⟨b, off + (2 ^ n - 1 - s), none⟩ = some (.int .i64 y) := fun x => x.cell hck
  have e4 : ∀ x : Ext W, x.w.cell? ⟨b, off + (2 ^ n - 1), none⟩ = some (.int .i64 z) := fun x => x.cell hcf
  obtain ⟨m, hm⟩ : ∃ m, m = 2 ^ n - 1 - s := ⟨_, rfl⟩
  obtain ⟨M, hM⟩ : ∃ m, m = 2 ^ n - 1 := ⟨_, rfl⟩
  simp only [← hm] at hixk e3 hbits
  rw [← hM] at e4
  simp only [← hM] at hixf
  have HF := Lib.hid hf
  have HAL := Lib.hid (fun (x : Ext W) => allOf_any (n : Int) (.slice a l.length c) l x.w (x.ints hv0) (by omega) (by omega))
  have hL : l.length = 2 ^ n := hl
  rw [← hL] at hixk hixf
  have HLL := Lib.hid hl
  clear hc hix hb hf hd hck hcf hq hm hM hcast hl hL hy hz hlb hxb
  go_enter Tryz.func52, Tryz.ntmps52
  go_wp2_with fail
  refine wp_region_ext _ (by kernel_rfl) (by kernel_rfl) ?_
  repeat (first | go_big_quiet_skip | (go_big_quiet_want; go_big_quiet_op; first | go_big_quiet_on | (apply Exists.intro; refine ⟨fun _ => ?_, ?_⟩; (first | (go_at_call 54; exact ext_call (HAL.out _)) | (go_at_call 53; exact ext_same (HW.out _))); go_big_quiet_on)))
  refine wpQuiet_nil ?_
  rintro w3 ⟨⟨w3, hb3⟩, rfl⟩
  try dsimp only
  go_wp2
  go_ret
  exact ⟨ret_int HF.out.symm, hb3⟩
theorem duClosure_enters : ∀ args w, (callFunc 52 args).run Tryz.prog w = .ok (.enter 52 args) w := enters_of Tryz.func52 (by kernel_rfl) rfl

set_option maxHeartbeats 2000000 in
set_option maxRecDepth 100000 in
theorem duFunI_any (w : World) (N : Nat) (v u : Value) (l x : List Int) (hf : isFunB N l = true) (hx : x.length = N) (ha : allIn x (-1000) 1000 = true) (hm : isFunB N (duL x l) = true) (hv : Ints w v l) (hu : Ints w u x) :
    Calls Tryz.prog 28 #[.agg #[.int .i64 N, v], u] w fun e w' => ∃ ad i cp, e = .returned (.tuple #[.agg #[.int .i64 N, .slice ad i cp], .bool true]) ∧ OwnI 3 w.heap.size w' (.slice ad i cp) (duL x l) ∧ Below w.heap.size w w' := by
  obtain ⟨a, c, rfl⟩ := hv.shape
  obtain ⟨au, cu, rfl⟩ := hu.shape
  have hmf : ∀ (fn : Fn) (first cap : Array Value) (w : World), (Instr.makeFunc fn first cap).run Tryz.prog w = .ok (.func fn first cap) w := fun _ _ _ _ => rfl
  obtain ⟨N', hN', hN5, hl2, hl32, hlb⟩ := fun_nat hf
  have hN' : N' = N := by omega
  subst hN'
  have hxb : ∀ k, (hk : k < x.length) → -1000 ≤ x[k] ∧ x[k] ≤ 1000 := fun k hk => by
    unfold allIn at ha
    rw [List.all_eq_true] at ha
    exact inB_true.1 (ha _ (List.getElem_mem hk))
  have HL2 := Lib.hid hl2
  have HX := Lib.hid hx
  have HF := Lib.hid hf
  clear hl2 hx hf
  go_enter Tryz.func28, Tryz.ntmps28
  go_wp2_with fail
  refine calls_named ?_
  intro V hV
  have B : Below w.heap.size w V := by rw [hV]; exact bl3 _ _ _ _
  have K1 : Blk V w.heap.size 32 #[.int .i64 N', .slice a l.length c] := by rw [hV]; exact ((Blk.new _ _ _).alloc _).alloc _
  have K2 : Blk V (w.heap.size + 1) 30 #[.slice au x.length cu] := by rw [hV]; have := (Blk.new (w.alloc (.cells #[.int .i64 N', .slice a l.length c] 32)) 30 #[.slice au x.length cu]).alloc (.cells #[.int .i64 0, .slice none 0 0] 32); simpa using this
  have K3 : Blk V (w.heap.size + 1 + 1) 32 #[.int .i64 0, .slice none 0 0] := by rw [hV]; have := Blk.new ((w.alloc (.cells #[.int .i64 N', .slice a l.length c] 32)).alloc (.cells #[.slice au x.length cu] 30)) 32 #[.int .i64 0, .slice none 0 0]; simpa using this
  clear hV
  refine (isFunI_any N' l _ _ (hv.below B (Nat.le_refl _))).mono ?_
  rintro e w1 ⟨rfl, hb1⟩
  rw [HF.out]
  have hl2 := HL2.out
  have hx := HX.out
  have K1 := K1.keep hb1
  have K2 := K2.keep hb1
  have K3 := K3.keep hb1
  have B1 := B.after hb1 B.size
  have hv1 := hv.below B1 (Nat.le_refl _)
  have hu1 := hu.below B1 (Nat.le_refl _)
  have G1 := K1.cell
  have G2 := K2.cell
  have z3 := K3.lt
  have HAW := Lib.hid (areWithin_any x _ (-1000) 1000 w1 hu1)
  rw [ha] at HAW
  have hti : ((x.length : Int) != (N' : Int)) = false := by simp; omega
  have hmk := makeFunction2_any w1 N' hN5 52 duClosure_enters (w.heap.size + 1) w.heap.size (duF x l)
    (fun s hs => by
      have hq : madeL (duF x l) (2 ^ N') = duL x l := by unfold duL; rw [hl2]
      obtain ⟨_, _, _, hb⟩ := funOk hm
      have hlen : (duL x l).length = 2 ^ N' := by rw [← hq]; simp [madeL]
      have := hb s (by omega)
      have he : (duL x l)[s]'(by omega) = duF x l s := by simp [← hq, madeL]
      rw [he] at this
      exact ⟨by omega, by omega⟩)
    (fun s W' hs hB => duClosure N' hN5 l x _ _ w.heap.size (w.heap.size + 1) s W' (hv1.keep hB) (hu1.keep hB) hl2 hs hlb (by omega) hxb (keep hB (G2 0)) (keep hB (G1 0)) (keep hB (G1 1)))
  have hq : madeL (duF x l) (2 ^ N') = duL x l := by unfold duL; rw [hl2]
  rw [hq, hm, if_pos rfl, if_pos rfl] at hmk
  have HMK := Lib.hid hmk
  clear hmk hq hm ha hl2 hx hlb hxb hb1
  go_wp2_with fail
  refine HAW.out.mono ?_
  rintro e w2 ⟨rfl, rfl⟩
  go_wp2_with fail
  refine HMK.out.mono ?_
  rintro e w4 ⟨p4, i4, q4, rfl, o4, b4⟩
  have K3 := K3.keep b4
  have B4 := B1.after b4 B1.size
  have ro := o4.lt
  clear G1 G2
  have G3 := K3.cell
  have F3 := K3.frozen
  have y1 := B1.size
  go_wp2
  refine post_named ?_
  intro Wf hWf
  have K3f : Blk Wf (w.heap.size + 1 + 1) 32 #[.int .i64 N', .slice p4 i4 q4] := by
    rw [hWf]
    have := (K3.set 0 (.int .i64 N')).set 1 (.slice p4 i4 q4)
    simpa using this
  have hg : w4.grownBy Wf (some (w.heap.size + 1 + 1)) := by rw [hWf]; exact grow_set (grow_set (World.grownBy.refl _ _) 0 _) 1 _
  have Bf : Below w.heap.size w Wf := B4.grown hg B4.size (fun q hq => by have := Option.some.inj hq; omega)
  have of := (o4.grow hg (fun q hq e => by have := Option.some.inj hq; have := (ro _ e).1; omega)).mono (B' := w.heap.size) B1.size
  have Gf := K3f.cell
  clear hWf
  exact bodyPost_ret (v := .tuple #[.agg #[.int .i64 N', .slice p4 i4 q4], .bool true]) (by simp [results, Tryz.results28, go_sem, Gf]) rfl ⟨p4, i4, q4, rfl, of, Bf⟩

def onesL (n : Nat) : List Int := List.replicate n 1
theorem ones_step (N k : Nat) (h : k < N) : (List.replicate k (1 : Int) ++ List.replicate (N - k) 0).set k 1 = List.replicate (k + 1) 1 ++ List.replicate (N - (k + 1)) 0 := by
  have := fill_step (List.replicate N (1 : Int)) k (by simpa using h)
  simpa [Nat.min_eq_left (Nat.le_of_lt h), Nat.min_eq_left h] using this
set_option maxHeartbeats 2000000 in
set_option maxRecDepth 100000 in
theorem dualRank_any (w : World) (N : Nat) (v : Value) (l : List Int) (hr : rankB N l = true) (hm : isFunB N (duL (onesL N) l) = true) (hv : Ints w v l) (hl : l.length ≤ 1048576) :
    Calls Tryz.prog 10 #[.agg #[.int .i64 N, v]] w fun e w' => ∃ ad i cp, e = .returned (.tuple #[.agg #[.int .i64 N, .slice ad i cp], .bool true]) ∧ OwnI 3 w.heap.size w' (.slice ad i cp) (duL (onesL N) l) ∧ Below w.heap.size w w' := by
  obtain ⟨a, c, rfl⟩ := hv.shape
  have hf : isFunB N l = true := by
    unfold rankB at hr
    rw [Bool.and_eq_true] at hr
    exact poly_fun hr.1
  obtain ⟨N', hN', hN5⟩ : ∃ N' : Nat, (N : Int) = N' ∧ N' ≤ 5 := by
    obtain ⟨q, h1, h2, _⟩ := fun_nat hf
    exact ⟨q, h1, h2⟩
  have hN' : N' = N := by omega
  subst hN'
  have ha : allIn (onesL N') (-1000) 1000 = true := by
    unfold allIn onesL
    rw [List.all_eq_true]
    intro y hy
    rw [List.eq_of_mem_replicate hy]
    decide
  have HDF := Lib.hid (fun W (u : Value) (h1 : Ints W (.slice a l.length c) l) (h2 : Ints W u (onesL N')) => duFunI_any W N' _ u l (onesL N') hf (by unfold onesL; simp) ha hm h1 h2)
  have HR := Lib.hid hr
  clear hr hf ha hm
  go_enter Tryz.func10, Tryz.ntmps10
  go_wp2_with fail
  refine calls_named ?_
  intro V hV
  have B : Below w.heap.size w V := by rw [hV]; exact bl2 _ _ _
  have K1 : Blk V w.heap.size 32 #[.int .i64 N', .slice a l.length c] := by rw [hV]; exact (Blk.new _ _ _).alloc _
  have K2 : Blk V (w.heap.size + 1) 32 #[.int .i64 0, .slice none 0 0] := by rw [hV]; have := Blk.new (w.alloc (.cells #[.int .i64 N', .slice a l.length c] 32)) 32 #[.int .i64 0, .slice none 0 0]; simpa using this
  clear hV
  refine (rankI_any N' l _ _ (hv.below B (Nat.le_refl _)) hl).mono ?_
  rintro e w1 ⟨rfl, hb1⟩
  rw [HR.out]
  have K1 := K1.keep hb1
  have K2 := K2.keep hb1
  have B1 := B.after hb1 B.size
  have G1 := K1.cell
  have z1 := K1.lt
  have z2 := K2.lt
  clear B hb1
  go_wp2_with (at_make; refine wpList_makeI rfl _ _ _ rfl 3 Tryz.underlying30 intElem N' _ _ rfl rfl rfl rfl (by omega) ?_; intro w3 hown hgr)
  have b3 : Below w1.heap.size w1 w3 := (Below.refl _ _).grown hgr (Nat.le_refl _) (by simp)
  have K1 := K1.keep b3
  have K2 := K2.keep b3
  have hown := hown.mono (B' := w.heap.size + 1 + 1) z2
  have B := B1.after b3 B1.size
  obtain ⟨g, hg2⟩ : ∃ g, g = w1.heap.size := ⟨_, rfl⟩
  rw [← hg2] at hown ⊢
  clear hg2 hgr b3 G1 z1 z2 B1
  obtain ⟨lo, hlo⟩ : ∃ lo : List Int, lo = onesL N' := ⟨_, rfl⟩
  have hlen : lo.length = N' := by rw [hlo]; simp [onesL]
  have hat : ∀ k, (h : k < lo.length) → lo[k] = 1 := by subst hlo; intro k h; simp [onesL]
  have e0 : List.replicate N' (0 : Int) = lo.take 0 ++ List.replicate (lo.length - 0) 0 := by rw [hlen]; simp
  rw [e0] at hown
  have HLO := Lib.hid (And.intro hlo (And.intro hlen hat))
  clear hlo hlen hat e0
  go_loopw [15] (fun i wr => ∃ k : Nat, k ≤ N' ∧ i = .int .i64 k ∧ OwnI 3 (w.heap.size + 1 + 1) wr (.slice (some ⟨g, 0, none⟩) N' N') (lo.take k ++ List.replicate (lo.length - k) 0) ∧ Blk wr w.heap.size 32 #[.int .i64 (N' : Int), .slice a l.length c] ∧ Blk wr (w.heap.size + 1) 32 #[.int .i64 0, .slice none 0 0] ∧ Below w.heap.size w wr) (fun i _ => N' - (intOf i).toNat)
  case atStart => exact ⟨0, Nat.zero_le _, rfl, hown, K1, K2, B⟩
  case round =>
    obtain ⟨k, hk, rfl, o, Kr, Kq, Br⟩ := hrel
    clear hown K1 K2 B
    have HO := Lib.hid o
    clear o
    have hl2 := fill_len lo k (by rw [HLO.out.2.1]; exact hk)
    rw [HLO.out.2.1] at hl2 HO
    by_cases hlt : k < N'
    · have hlt2 : (k : Int) < (N' : Int) := by omega
      have hcell : ∃ q, wr.cell? ⟨g, k, none⟩ = some q := ⟨_, HO.out.cellAt hl2.symm k (by omega)⟩
      obtain ⟨q, hcell⟩ := hcell
      have hfr := HO.out.frozenAt hl2.symm k
      have hgb := (HO.out.lt g rfl).1
      have st := HO.out.stored hl2.symm k 1 ⟨by omega, by omega⟩
      have hll : k < lo.length := by rw [HLO.out.2.1]; exact hlt
      have fs := fill_step lo k hll
      rw [HLO.out.2.2 k hll, HLO.out.2.1] at fs
      rw [fs] at st
      have B1 := Br.grown st.2 Br.size (fun q hq => by have := Option.some.inj hq; omega)
      have K1 := Kr.far (p := ⟨g, k, none⟩) (by show w.heap.size ≠ g; omega) (.int .i64 1)
      have K2 := Kq.far (p := ⟨g, k, none⟩) (by show w.heap.size + 1 ≠ g; omega) (.int .i64 1)
      have HST := Lib.hid st.1
      clear st fs hl2 hll
      go_wp2
      go_roundw
      case rel => exact ⟨k + 1, by omega, by go_num, by rw [HLO.out.2.1]; exact HST.out, K1, K2, B1⟩
      case measure => simp [intOf]; omega
    · have hlt2 : ¬ (k : Int) < (N' : Int) := by omega
      have hkn : k = N' := by omega
      have ho2 : OwnI 3 (w.heap.size + 1 + 1) wr (.slice (some ⟨g, 0, none⟩) N' N') (onesL N') := by
        have := HO.out
        rw [hkn, Nat.sub_self, List.replicate_zero, List.append_nil, List.take_of_length_le (by rw [HLO.out.2.1]; omega), HLO.out.1] at this
        exact this
      have HO2 := Lib.hid ho2
      have HCL := Lib.hid (HDF.out wr _ (hv.below Br (Nat.le_refl _)) ho2.ints)
      have G1 := Kr.cell
      have z2 := Kq.lt
      clear ho2 hl2 hkn
      go_wp2_with (go_at_call 28; refine HCL.out.mono ?_; rintro e4 w4 ⟨p4, i4, q4, rfl, o4, b4⟩; have K3 := Kq.keep b4; have G3 := K3.cell; have F3 := K3.frozen)
      have B4 := Br.after b4 Br.size
      have ro := o4.lt
      refine post_named ?_
      intro Wf hWf
      have K3f : Blk Wf (w.heap.size + 1) 32 #[.int .i64 N', .slice p4 i4 q4] := by
        rw [hWf]
        have := (K3.set 0 (.int .i64 N')).set 1 (.slice p4 i4 q4)
        simpa using this
      have hg : w4.grownBy Wf (some (w.heap.size + 1)) := by rw [hWf]; exact grow_set (grow_set (World.grownBy.refl _ _) 0 _) 1 _
      have Bf : Below w.heap.size w Wf := B4.grown hg B4.size (fun q hq => by have := Option.some.inj hq; omega)
      have of := (o4.grow hg (fun q hq e => by have := Option.some.inj hq; have := (ro _ e).1; omega)).mono (B' := w.heap.size) Br.size
      have Gf := K3f.cell
      clear hWf
      exact bodyPost_ret (v := .tuple #[.agg #[.int .i64 N', .slice p4 i4 q4], .bool true]) (by simp [results, Tryz.results10, go_sem, Gf]) rfl ⟨p4, i4, q4, rfl, of, Bf⟩
end Go.Proofs.YtdagcdgbdhecgaaGreat
end
