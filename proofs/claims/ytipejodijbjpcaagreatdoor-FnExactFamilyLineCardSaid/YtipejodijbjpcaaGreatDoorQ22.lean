/- Functions with the opposite values; supermodular functions: both programs. Vectors below a function. Supermodular and modular functions; bases: both programs. -/
import Derived.Test.YtipejodijbjpcaaGreatDoorQ21
section
namespace Go.Proofs.YtipejodijbjpcaaGreatDoor
open Go.RowKit Go.G5

/-- the opposite of a value -/
def negF (l : List Int) (s : Nat) : Int := -(l.getD s 0)
def negL (l : List Int) : List Int := madeL (negF l) l.length
def ngN (n : Int) (l : List Int) : Int := if isFunB n l then n else 0
def ngL (n : Int) (l : List Int) : List Int := if isFunB n l then negL l else []
theorem negL_len (l : List Int) : (negL l).length = l.length := by unfold negL madeL; simp
theorem negF_at (l : List Int) (s : Nat) (h : s < l.length) : negF l s = -l[s] := by unfold negF; rw [getD_at l _ h]
theorem negL_at (l : List Int) (s : Nat) (h : s < l.length) : (negL l)[s]'(by rw [negL_len]; exact h) = -l[s] := by
  unfold negL madeL
  rw [List.getElem_map, List.getElem_range]
  exact negF_at l s h
theorem neg_fun (n : Int) (l : List Int) (h : isFunB n l = true) : isFunB n (negL l) = true := by
  obtain ⟨h0, h5, hlen, hlb⟩ := funOk h
  unfold isFunB allIn
  rw [negL_len, inB_true.2 ⟨h0, h5⟩, decide_eq_true hlen]
  simp only [Bool.true_and, List.all_eq_true]
  intro x hx
  obtain ⟨s, hs, rfl⟩ := List.getElem_of_mem hx
  rw [negL_len] at hs
  rw [negL_at l s hs]
  have := hlb s hs
  exact inB_true.2 ⟨by omega, by omega⟩

set_option maxHeartbeats 1000000 in
set_option maxRecDepth 100000 in
theorem negClosure (l : List Int) (v : Value) (g h s : Nat) (W : World) (hv : Ints W v l) (hs : s < l.length) (hlb : ∀ k, (hk : k < l.length) → -1000 ≤ l[k] ∧ l[k] ≤ 1000)
    (d0 : W.cell? ⟨h, 0, none⟩ = some (.int .i64 (-1))) (c1 : W.cell? ⟨g, 1, none⟩ = some v) :
    Calls Tryz.prog 380 #[.int .i64 s, .pointer (some ⟨h, 0, none⟩), .pointer (some ⟨g, 0, none⟩)] W fun e w' => e = .returned (.int .i64 (negF l s)) ∧ Below W.heap.size W w' := by
  obtain ⟨a, b, off, c, rfl, hlen, hix, hc, hb⟩ := hv.view Tryz.prog 22 3 Tryz.underlying22 intElem
  have hf := negF_at l s hs
  have hck := hc s hs
  have hixk := fun W => hix W s hs
  have hbd := hlb s hs
  obtain ⟨x, hx⟩ : ∃ x, x = l[s] := ⟨_, rfl⟩
  rw [← hx] at hf hck hbd
  have e0 : ∀ y : Ext W, y.w.cell? ⟨h, 0, none⟩ = some (.int .i64 (-1)) := fun y => y.cell d0
  have e1 : ∀ x : Ext W, x.w.cell? ⟨g, 1, none⟩ = some (.slice a l.length c) := fun x => x.cell c1
  have e2 : ∀ y : Ext W, y.w.cell? ⟨b, off + s, none⟩ = some (.int .i64 x) := fun y => y.cell hck
  have HF := Lib.hid hf
  clear hc hix hb hf hck hx hlb
  go_enter Tryz.func380, Tryz.ntmps380
  go_wp2_with fail
  refine wp_region_ext _ (by kernel_rfl) (by kernel_rfl) ?_
  repeat (first | go_big_quiet_skip | (go_big_quiet_want; go_big_quiet_op; first | go_big_quiet_on | (apply Exists.intro; refine ⟨fun _ => ?_, ?_⟩; (fail); go_big_quiet_on)))
  refine wpQuiet_nil ?_
  rintro w3 ⟨⟨w3, hb3⟩, rfl⟩
  try dsimp only
  go_wp2
  go_ret
  exact ⟨ret_int (by rw [HF.out]), hb3⟩
theorem negClosure_enters : ∀ args w, (callFunc 380 args).run Tryz.prog w = .ok (.enter 380 args) w := enters_of Tryz.func380 (by kernel_rfl) rfl

set_option maxHeartbeats 1000000 in
set_option maxRecDepth 100000 in
theorem negI_c (w : World) (n : Int) (v : Value) (l : List Int) (hv : Ints w v l) (_ : l.length ≤ 1048576) :
    Calls Tryz.prog 354 #[.agg #[.int .i64 n, v], .int .i64 (-1)] w fun e w' => ∃ ad i cp, e = .returned (.tuple #[.agg #[.int .i64 (ngN n l), .slice ad i cp], .bool (isFunB n l)]) ∧ OwnI 3 w.heap.size w' (.slice ad i cp) (ngL n l) ∧ Below w.heap.size w w' := by
  obtain ⟨a, c, rfl⟩ := hv.shape
  have hmf : ∀ (fn : Fn) (first cap : Array Value) (w : World), (Instr.makeFunc fn first cap).run Tryz.prog w = .ok (.func fn first cap) w := fun _ _ _ _ => rfl
  have HIN := Lib.hid (fun W => within_any (-1) (-1000) 1000 W)
  rw [show inB (-1) (-1000) 1000 = true by decide] at HIN
  go_enter Tryz.func354, Tryz.ntmps354
  go_wp2_with fail
  refine calls_named ?_
  intro V hV
  have B : Below w.heap.size w V := by rw [hV]; exact bl3 _ _ _ _
  have K1 : Blk V w.heap.size 32 #[.int .i64 n, .slice a l.length c] := by rw [hV]; exact ((Blk.new _ _ _).alloc _).alloc _
  have K1b : Blk V (w.heap.size + 1) 3 #[.int .i64 (-1)] := by rw [hV]; have := (Blk.new (w.alloc (.cells #[.int .i64 n, .slice a l.length c] 32)) 3 #[.int .i64 (-1)]).alloc (.cells #[.int .i64 0, .slice none 0 0] 32); simpa using this
  have K2 : Blk V (w.heap.size + 1 + 1) 32 #[.int .i64 0, .slice none 0 0] := by rw [hV]; have := Blk.new ((w.alloc (.cells #[.int .i64 n, .slice a l.length c] 32)).alloc (.cells #[.int .i64 (-1)] 3)) 32 #[.int .i64 0, .slice none 0 0]; simpa using this
  clear hV
  refine (isFunI_any n l _ _ (hv.below B (Nat.le_refl _))).mono ?_
  rintro e w1 ⟨rfl, hb1⟩
  have K1 := K1.keep hb1
  have K1b := K1b.keep hb1
  have G1b := K1b.cell
  have K2 := K2.keep hb1
  have B1 := B.after hb1 B.size
  have hv1 := hv.below B1 (Nat.le_refl _)
  clear B hb1
  have G1 := K1.cell
  have z1 := K1.lt
  have z2 := K2.lt
  cases hf : isFunB n l with
  | false =>
    have hN : ngN n l = 0 := by unfold ngN; rw [hf]; rfl
    have hL : ngL n l = [] := by unfold ngL; rw [hf]; rfl
    have HN := Lib.hid hN
    have HL := Lib.hid hL
    have HF := Lib.hid hf
    have G2 := K2.cell
    have F2 := K2.frozen
    clear hN hL
    go_wp2
    refine post_named ?_
    intro Wf hWf
    have K2f : Blk Wf (w.heap.size + 1 + 1) 32 #[.int .i64 0, .slice none 0 0] := by
      rw [hWf]
      have := (K2.set 0 (.int .i64 0)).set 1 (.slice none 0 0)
      simpa using this
    have Bf : Below w.heap.size w Wf := by rw [hWf]; exact Below.setCell (Below.setCell B1 (by first | omega | (simp; done) | (simp; omega)) _) (by first | omega | (simp; done) | (simp; omega)) _
    have Gf := K2f.cell
    clear hWf G1 G1b G2 F2
    exact bodyPost_ret (v := .tuple #[.agg #[.int .i64 0, .slice none 0 0], .bool false]) (by simp [results, Tryz.results354, go_sem, Gf]) rfl ⟨none, 0, 0, by rw [HN.out, HF.out], by rw [HL.out]; exact OwnI.nil _ _ _, Bf⟩
  | true =>
    obtain ⟨h0, h5, hlen, hlb⟩ := funOk hf
    obtain ⟨N, rfl⟩ := Int.eq_ofNat_of_zero_le h0
    have hN5 : N ≤ 5 := by omega
    have hl2 : l.length = 2 ^ N := by
      have e2 : (N : Int).toNat = N := by omega
      rw [e2] at hlen
      exact_mod_cast hlen
    have hN : ngN N l = N := by unfold ngN; rw [hf]; rfl
    have hL : ngL N l = negL l := by unfold ngL; rw [hf]; rfl
    have hmade : madeL (negF l) (2 ^ N) = negL l := by unfold negL; rw [hl2]
    have hfo : isFunB N (madeL (negF l) (2 ^ N)) = true := by rw [hmade]; exact neg_fun N l hf
    have hmk : ∀ W, Ints W (.slice a l.length c) l → W.cell? ⟨w.heap.size + 1, 0, none⟩ = some (.int .i64 (-1)) → W.cell? ⟨w.heap.size, 1, none⟩ = some (.slice a l.length c) → Calls Tryz.prog 273 #[.int .i64 N, .func (.func 380) #[] #[.pointer (some ⟨w.heap.size + 1, 0, none⟩), .pointer (some ⟨w.heap.size, 0, none⟩)]] W fun e w' =>
        ∃ ad i cp, e = .returned (.tuple #[.agg #[.int .i64 N, .slice ad i cp], .bool true]) ∧ OwnI 3 W.heap.size w' (.slice ad i cp) (negL l) ∧ Below W.heap.size W w' := fun W hW c0 c1 => by
      have := makeFunction2_any W N hN5 380 negClosure_enters (w.heap.size + 1) w.heap.size (negF l) (fun s hs => by rw [negF_at l s (by omega)]; have := hlb s (by omega); exact ⟨by omega, by omega⟩)
        (fun s W' hs hB => negClosure l _ w.heap.size (w.heap.size + 1) s W' (hW.keep hB) (by omega) hlb (keep hB c0) (keep hB c1))
      rw [hfo, if_pos rfl, if_pos rfl, hmade] at this
      exact this
    have HN := Lib.hid hN
    have HL := Lib.hid hL
    have HF := Lib.hid hf
    have HMK := Lib.hid hmk
    clear hN hL hf hmade hfo hmk hl2 hlen hlb
    go_wp2_with fail
    refine (HIN.out _).mono ?_
    rintro e w2 ⟨rfl, rfl⟩
    go_wp2_with fail
    refine (HMK.out _ hv1 (G1b 0) (G1 1)).mono ?_
    rintro e w3 ⟨p3, i3, q3, rfl, o3, hb3⟩
    have K2 := K2.keep hb3
    have B3 := B1.after hb3 B1.size
    have G2 := K2.cell
    have F2 := K2.frozen
    have z3 := K2.lt
    clear G1 G1b hb3
    go_wp2
    refine post_named ?_
    intro Wf hWf
    have K2f : Blk Wf (w.heap.size + 1 + 1) 32 #[.int .i64 N, .slice p3 i3 q3] := by
      rw [hWf]
      have := (K2.set 0 (.int .i64 N)).set 1 (.slice p3 i3 q3)
      simpa using this
    have Bf : Below w.heap.size w Wf := by rw [hWf]; exact Below.setCell (Below.setCell B3 (by first | omega | (simp; done) | (simp; omega)) _) (by first | omega | (simp; done) | (simp; omega)) _
    have of : OwnI 3 w.heap.size Wf (.slice p3 i3 q3) (negL l) := by rw [hWf]; exact ((o3.setBelow (by first | omega | (simp; done) | (simp; omega)) _).setBelow (by first | omega | (simp; done) | (simp; omega)) _).mono (by first | omega | (simp; done) | (simp; omega))
    have Gf := K2f.cell
    clear hWf G2 F2
    exact bodyPost_ret (v := .tuple #[.agg #[.int .i64 N, .slice p3 i3 q3], .bool true]) (by simp [results, Tryz.results354, go_sem, Gf]) rfl ⟨p3, i3, q3, by rw [HN.out, HF.out], by rw [HL.out]; exact of, Bf⟩



set_option maxHeartbeats 2000000 in
set_option maxRecDepth 100000 in
theorem negS_c (w : World) (n : Int) (v : Value) (l : List Int) (hv : Ints w v l) (_ : l.length ≤ 1048576) :
    Calls Tryz.prog 342 #[.agg #[.int .i64 n, v], .int .i64 (-1)] w fun e w' => ∃ ad i cp, e = .returned (.tuple #[.agg #[.int .i64 (ngN n l), .slice ad i cp], .bool (isFunB n l)]) ∧ OwnI 3 w.heap.size w' (.slice ad i cp) (ngL n l) ∧ Below w.heap.size w w' := by
  obtain ⟨a, b, off, c, rfl, hlen, hix, hc, hb⟩ := hv.view Tryz.prog 22 3 Tryz.underlying22 intElem
  have HIN := Lib.hid (fun W => l1In_any (-1) (-1000) 1000 W)
  rw [show inB (-1) (-1000) 1000 = true by decide] at HIN
  go_enter Tryz.func342, Tryz.ntmps342
  go_wp2_with fail
  refine calls_named ?_
  intro V hV
  have B : Below w.heap.size w V := by rw [hV]; exact bl3 _ _ _ _
  have K1 : Blk V w.heap.size 32 #[.int .i64 n, .slice a l.length c] := by rw [hV]; exact ((Blk.new _ _ _).alloc _).alloc _
  have K2 : Blk V (w.heap.size + 1) 32 #[.int .i64 0, .slice none 0 0] := by rw [hV]; have := (Blk.new (w.alloc (.cells #[.int .i64 n, .slice a l.length c] 32)) 32 #[.int .i64 0, .slice none 0 0]).alloc (.cells #[] 3); simpa using this
  have o0 : OwnI 3 (w.heap.size + 1 + 1) V (.slice (some ⟨w.heap.size + 1 + 1, 0, none⟩) 0 0) [] := by
    rw [hV]
    have := OwnI.lit0 (E := 3) (B := w.heap.size + 1 + 1) ((w.alloc (.cells #[.int .i64 n, .slice a l.length c] 32)).alloc (.cells #[.int .i64 0, .slice none 0 0] 32)) (by simp)
    simpa using this
  clear hV
  refine (isFunS_any n l _ _ (hv.below B (Nat.le_refl _))).mono ?_
  rintro e w1 ⟨rfl, hb1⟩
  have K1 := K1.keep hb1
  have K2 := K2.keep hb1
  have o0 := o0.keep hb1
  have B1 := B.after hb1 B.size
  have hv1 := hv.below B1 (Nat.le_refl _)
  clear B hb1
  have G1 := K1.cell
  have z1 := K1.lt
  have z2 := K2.lt
  cases hf : isFunB n l with
  | false =>
    have hN : ngN n l = 0 := by unfold ngN; rw [hf]; rfl
    have hL : ngL n l = [] := by unfold ngL; rw [hf]; rfl
    have HN := Lib.hid hN
    have HL := Lib.hid hL
    have HF := Lib.hid hf
    have G2 := K2.cell
    have F2 := K2.frozen
    clear hN hL
    go_wp2
    refine post_named ?_
    intro Wf hWf
    have K2f : Blk Wf (w.heap.size + 1) 32 #[.int .i64 0, .slice none 0 0] := by
      rw [hWf]
      have := (K2.set 0 (.int .i64 0)).set 1 (.slice none 0 0)
      simpa using this
    have Bf : Below w.heap.size w Wf := by rw [hWf]; exact Below.setCell (Below.setCell B1 (by first | omega | (simp; done) | (simp; omega)) _) (by first | omega | (simp; done) | (simp; omega)) _
    have Gf := K2f.cell
    clear hWf G1 G2 F2
    exact bodyPost_ret (v := .tuple #[.agg #[.int .i64 0, .slice none 0 0], .bool false]) (by simp [results, Tryz.results342, go_sem, Gf]) rfl ⟨none, 0, 0, by rw [HN.out, HF.out], by rw [HL.out]; exact OwnI.nil _ _ _, Bf⟩
  | true =>
    obtain ⟨h0, h5, hlen2, hlb⟩ := funOk hf
    have hl32 : l.length ≤ 32 := by
      have hp := (pow_le32 h0 h5).1
      omega
    have hN : ngN n l = n := by unfold ngN; rw [hf]; rfl
    have hL : ngL n l = madeL (negF l) l.length := by unfold ngL; rw [hf]; rfl
    have hng := neg_fun n l hf
    have HN := Lib.hid hN
    have HL := Lib.hid hL
    have HF := Lib.hid hf
    have HNG := Lib.hid hng
    have HLB := Lib.hid hlb
    clear hN hL hf hlen2 hlb hng
    go_wp2_with fail
    refine (HIN.out _).mono ?_
    rintro e w2 ⟨rfl, rfl⟩
    go_wp2_with fail
    go_loopw [6, 7] (fun out i wr => ∃ (k : Nat) (ad : Option Addr) (nn cp : Nat), k ≤ l.length ∧ out = .slice ad nn cp ∧ i = .int .i64 k ∧ OwnI 3 (w.heap.size + 1 + 1) wr (.slice ad nn cp) (madeL (negF l) k) ∧ Blk wr w.heap.size 32 #[.int .i64 n, .slice a l.length c] ∧ Blk wr (w.heap.size + 1) 32 #[.int .i64 0, .slice none 0 0] ∧ Below w.heap.size w wr)
      (fun _ i _ => l.length - (intOf i).toNat)
    case atStart => exact ⟨0, _, _, _, Nat.zero_le _, rfl, rfl, o0, K1, K2, B1⟩
    case round =>
      obtain ⟨k, ad, nn, cp, hk, rfl, rfl, ho, Kr, K2r, B⟩ := hrel
      have HO := Lib.hid ho
      clear ho o0 G1 K1 K2 z1 z2
      have G1 := Kr.cell
      have yB := B.size
      have z2 := K2r.lt
      by_cases hlt : k < l.length
      · have hms := madeL_succ (negF l) k
        have hof := negF_at l k hlt
        have ck := cells_below hc hb B (Nat.le_refl _) k hlt
        have ik := fun W => hix W k hlt
        have hbd := HLB.out k hlt
        rw [hof] at hms
        obtain ⟨x, hx⟩ : ∃ x, x = l[k] := ⟨_, rfl⟩
        rw [← hx] at ck hbd hms
        have hml : (madeL (negF l) k).length ≤ 32 := by unfold madeL; simp; omega
        have HMS := Lib.hid hms
        have hx0 := hbd.1
        have hx1 := hbd.2
        clear hms hof hx hbd
        go_wp2_with (at_builtin; refine wpList_appendN1 rfl _ _ _ rfl 3 Tryz.underlying22 intElem (w.heap.size + 1 + 1) _ _ (-x) wr.heap.size rfl rfl (cell_new wr #[.int .i64 (-x)] 3 0 _ rfl) (HO.out.alloc _) ⟨by omega, by omega⟩ (by omega) (by simp; omega) ?_; intro v' w6 hown hgr hnb; obtain ⟨av, nv, cv, rfl⟩ := hown.shape3)
        have hr0 := HO.out.lt
        have B6 : Below w.heap.size w w6 := (B.alloc B.size (.cells #[.int .i64 (-x)] 3)).grown hgr (by simp; omega) (fun q hq => by have := (hr0 q hq).1; omega)
        have K6 := (Kr.alloc (.cells #[.int .i64 (-x)] 3)).grow hgr (fun e => by have := (hr0 _ e).1; omega)
        have K7 := (K2r.alloc (.cells #[.int .i64 (-x)] 3)).grow hgr (fun e => by have := (hr0 _ e).1; omega)
        go_roundw
        case rel => exact ⟨k + 1, av, nv, cv, by omega, rfl, by go_num, by rw [HMS.out]; exact hown, K6, K7, B6⟩
        case measure => simp [intOf]; omega
      · have hkl : k = l.length := by omega
        subst hkl
        have hmd := fun (W : World) (h : Ints W (.slice ad nn cp) (negL l)) => l2Made_yes W n ad nn cp (negL l) h HNG.out
        have HMD := Lib.hid hmd
        clear hmd
        go_wp2_with fail
        refine (HMD.out wr HO.out.ints).mono ?_
        rintro e w4 ⟨rfl, b4⟩
        have K2 := K2r.keep b4
        have B4 := B.after b4 B.size
        have o4 := HO.out.keep b4
        have F2 := K2.frozen
        have G2 := K2.cell
        have z4 := K2.lt
        clear G1
        go_wp2
        refine post_named ?_
        intro Wf hWf
        have K2f : Blk Wf (w.heap.size + 1) 32 #[.int .i64 n, .slice ad nn cp] := by
          rw [hWf]
          have := ((K2.set 0 (.int .i64 n)).set 1 (.slice ad nn cp)).alloc (.cells #[.int .i64 n, .slice ad nn cp] 32)
          simpa using this
        have hg : w4.grownBy Wf (some (w.heap.size + 1)) := by rw [hWf]; exact gr_trans (grow_set (grow_set (World.grownBy.refl _ _) 0 _) 1 _) (gr_below _ (bl1 _ _))
        have Bf : Below w.heap.size w Wf := B4.grown hg B4.size (fun q hq => by have := Option.some.inj hq; omega)
        have hr4 := o4.lt
        have of := (o4.grow hg (fun q hq e => by have := Option.some.inj hq; have := (hr4 _ e).1; omega)).mono (B' := w.heap.size) (by omega)
        have Gf := K2f.cell
        clear hWf G2 F2
        exact bodyPost_ret (v := .tuple #[.agg #[.int .i64 n, .slice ad nn cp], .bool true]) (by simp [results, Tryz.results342, go_sem, Gf]) rfl ⟨ad, nn, cp, by rw [HN.out, HF.out], by rw [HL.out]; exact of, Bf⟩
end Go.Proofs.YtipejodijbjpcaaGreatDoor
end
section
namespace Go.Proofs.YtipejodijbjpcaaGreatDoor
open Go.RowKit Go.G5

def belOkTo (l x : List Int) : Nat → Bool
  | 0 => true
  | k + 1 => belOkTo l x k && decide (0 ≤ slackOf l x k)
def belB (n : Int) (l x : List Int) : Bool := isGrB n l && isLongB n x && belOkTo l x l.length
theorem belOk_false (l x : List Int) (k : Nat) (h : slackOf l x k < 0) : ∀ m, k < m → belOkTo l x m = false := by
  intro m
  induction m with
  | zero => intro h; omega
  | succ m ih =>
    intro hm
    rw [belOkTo]
    by_cases hkm : k < m
    · rw [ih hkm]; rfl
    · have : m = k := by omega
      subst this
      rw [decide_eq_false (by omega)]; simp
theorem belOk_true (l x : List Int) : ∀ m, belOkTo l x m = true → ∀ k : Nat, k < m → 0 ≤ slackOf l x k := by
  intro m
  induction m with
  | zero => intro _ k hk; omega
  | succ m ih =>
    intro h k hk
    rw [belOkTo] at h
    obtain ⟨h1, h2⟩ := Bool.and_eq_true_iff.1 h
    by_cases hkm : k < m
    · exact ih h1 k hkm
    · have : k = m := by omega
      subst this
      exact of_decide_eq_true h2

set_option maxHeartbeats 1000000 in
theorem isBelowI_any (w : World) (n : Int) (v : Value) (l : List Int) (hv : Ints w v l) (u : Value) (x : List Int) (hu : Ints w u x) :
    Calls Tryz.prog 125 #[.agg #[.int .i64 n, v], u] w fun e w' => e = .returned (.bool (belB n l x)) ∧ Below w.heap.size w w' := by
  obtain ⟨av, cv, rfl⟩ := hv.shape
  obtain ⟨au, cu, rfl⟩ := hu.shape
  go_enter Tryz.func125, Tryz.ntmps125
  go_wp2_with fail
  refine (isGrI_any n l _ _ (hv.alloc _)).mono ?_
  rintro e w1 ⟨rfl, hb1⟩
  have X1 := (Box2.new w n (.slice av l.length cv) 32).after hb1
  clear hb1
  cases hg : isGrB n l with
  | false =>
    have hx : belB n l x = false := by unfold belB; rw [hg]; rfl
    have HX := Lib.hid hx
    obtain ⟨d0, d1, B1, z1⟩ := X1
    clear hx
    go_wp2
    go_ret
    exact ⟨by rw [HX.out]; rfl, B1⟩
  | true =>
    obtain ⟨h0, h5, hl, hlb⟩ := funOk (grOk hg)
    have hp := pow_le32 h0 h5
    have hl32 : l.length ≤ 64 := by omega
    have HLB := Lib.hid hlb
    clear hl hlb hp
    obtain ⟨d0, d1, B1, z1⟩ := X1
    go_wp2_with fail
    refine (isLong_any n l _ x _ _ (hv.below B1 (Nat.le_refl _)) (hu.below B1 (Nat.le_refl _))).mono ?_
    rintro e w2 ⟨rfl, hb2⟩
    have X2 := (Box2.mk d0 d1 B1 z1).after hb2
    clear hb2 d0 d1 B1 z1
    cases hlo : isLongB n x with
    | false =>
      have hx : belB n l x = false := by unfold belB; rw [hg, hlo]; rfl
      have HX := Lib.hid hx
      obtain ⟨d0, d1, B1, z1⟩ := X2
      clear hx
      go_wp2
      go_ret
      exact ⟨by rw [HX.out]; rfl, B1⟩
    | true =>
      obtain ⟨hxl, hxb⟩ := longOk hlo
      have hxl6 : x.length ≤ 6 := by omega
      have hx : belB n l x = belOkTo l x l.length := by unfold belB; rw [hg, hlo]; rfl
      have HX := Lib.hid hx
      have HXB := Lib.hid hxb
      clear hx hxb hxl
      obtain ⟨d0, d1, B1, z1⟩ := X2
      go_wp2_with fail
      go_loopw [18] (fun i wr => ∃ k : Nat, k ≤ l.length ∧ i = .int .i64 k ∧ belOkTo l x k = true ∧ Box2 w wr n (.slice av l.length cv)) (fun i _ => l.length - (intOf i).toNat)
      case atStart => exact ⟨0, Nat.zero_le _, rfl, rfl, ⟨d0, d1, B1, z1⟩⟩
      case round =>
        obtain ⟨k, hk, rfl, hok, X⟩ := hrel
        have HO := Lib.hid hok
        clear hok d0 d1 B1 z1
        obtain ⟨d0, d1, B1, z1⟩ := X
        by_cases hlt : k < l.length
        · have hlt2 : (k : Int) < (l.length : Int) := by omega
          go_wp2_with fail
          refine (slack_any n l _ x _ k _ (hv.below B1 (Nat.le_refl _)) (hu.below B1 (Nat.le_refl _)) (by omega) (by omega) hl32 HLB.out HXB.out hxl6).mono ?_
          rintro e w3 ⟨rfl, hb3⟩
          have X3 := (Box2.mk d0 d1 B1 z1).after hb3
          clear hb3 d0 d1 B1 z1
          by_cases hle : slackOf l x k < 0
          · go_wp2
            go_ret
            refine ⟨ret_bool ?_, X3.B⟩
            rw [HX.out, belOk_false l x k hle _ hlt]
          · go_wp2
            go_roundw
            case rel => exact ⟨k + 1, by omega, by go_num, by rw [belOkTo, HO.out, decide_eq_true (by omega)]; rfl, X3⟩
            case measure => simp [intOf]; omega
        · have hlt2 : ¬ (k : Int) < (l.length : Int) := by omega
          have hkl : k = l.length := by omega
          have HK := Lib.hid hkl
          clear hkl
          go_wp2
          go_ret
          exact ⟨ret_bool (by rw [HX.out, ← HK.out, HO.out]), B1⟩

set_option maxHeartbeats 1000000 in
theorem isBelowS_any (w : World) (n : Int) (v : Value) (l : List Int) (hv : Ints w v l) (u : Value) (x : List Int) (hu : Ints w u x) :
    Calls Tryz.prog 198 #[.agg #[.int .i64 n, v], u] w fun e w' => e = .returned (.bool (belB n l x)) ∧ Below w.heap.size w w' := by
  obtain ⟨a, b, off, c, rfl, hlen, hix, hc, hb⟩ := hv.view Tryz.prog 22 3 Tryz.underlying22 intElem
  obtain ⟨au, cu, rfl⟩ := hu.shape
  go_enter Tryz.func198, Tryz.ntmps198
  go_wp2_with fail
  refine (isGrS_any n l _ _ (hv.alloc _)).mono ?_
  rintro e w1 ⟨rfl, hb1⟩
  have X1 := (Box2.new w n (.slice a l.length c) 32).after hb1
  clear hb1
  have hc1 := cells_below hc hb X1.B (Nat.le_refl _)
  have hu1 := hu.below X1.B (Nat.le_refl _)
  clear hc
  cases hg : isGrB n l with
  | false =>
    have hx : belB n l x = false := by unfold belB; rw [hg]; rfl
    have HX := Lib.hid hx
    obtain ⟨d0, d1, B1, z1⟩ := X1
    clear hx
    go_wp2
    go_ret
    exact ⟨by rw [HX.out]; rfl, B1⟩
  | true =>
    obtain ⟨h0, h5, hl, hlb⟩ := funOk (grOk hg)
    have hp := pow_le32 h0 h5
    have hl32 : l.length ≤ 64 := by omega
    have HLB := Lib.hid hlb
    clear hl hlb
    obtain ⟨d0, d1, B1, z1⟩ := X1
    by_cases hxl : (x.length : Int) = n
    · have hne : ((x.length : Int) != n) = false := by simp [hxl]
      have hx5 : x.length ≤ 5 := by omega
      have HXL := Lib.hid hxl
      cases hal : allIn x (-5000) 5000 with
      | false =>
        have hx : belB n l x = false := by unfold belB isLongB; rw [hg, hal]; simp
        have HX := Lib.hid hx
        clear hx hxl
        go_wp2_with (go_at_call 299; refine (l8Vector_any x _ _ hu1).mono ?_; rintro e w' ⟨rfl, rfl⟩; rw [hal])
        go_ret
        exact ⟨by rw [HX.out]; rfl, B1⟩
      | true =>
        have hlo : isLongB n x = true := by unfold isLongB; rw [hal, decide_eq_true hxl]; rfl
        obtain ⟨_, hxb⟩ := longOk hlo
        have hx : belB n l x = belOkTo l x l.length := by unfold belB; rw [hg, hlo]; rfl
        have HX := Lib.hid hx
        have HXB := Lib.hid hxb
        have hd5 : decide (x.length ≤ 5) = true := decide_eq_true hx5
        clear hx hxb hxl hlo
        go_wp2_with (go_at_call 299; refine (l8Vector_any x _ _ hu1).mono ?_; rintro e w' ⟨rfl, rfl⟩; rw [hal, hd5])
        go_loopw [5] (fun i wr => ∃ k m : Nat, k ≤ l.length ∧ i = .int .i64 k ∧ belOkTo l x k = true ∧ wr = w1.drewN m) (fun i _ => l.length - (intOf i).toNat)
        case atStart => exact ⟨0, 0, Nat.zero_le _, rfl, rfl, rfl⟩
        case round =>
          obtain ⟨k, m, hk, rfl, hok, rfl⟩ := hrel
          have HO := Lib.hid hok
          clear hok
          by_cases hlt : k < l.length
          · have hlt2 : (k : Int) < (l.length : Int) := by omega
            have hsl : slackOf l x k = l[k] - wt x k := by unfold slackOf; simp [hlt]
            have HS := Lib.hid hsl
            clear hsl
            by_cases hle : wt x k > l[k]
            · go_wp2
              go_quiet ((go_at_call 186; first | exact q_same2 (l3Weigh_any x _ _ _ (hu1.drewN _) (by omega) (by omega) (fun j hj => by have := HXB.out j hj; omega) (by omega)) | exact q_same (l3Weigh_any x _ _ _ (hu1.drewN _) (by omega) (by omega) (fun j hj => by have := HXB.out j hj; omega) (by omega))))
              go_wp2
              go_ret
              refine ⟨ret_bool ?_, (B1.drewN' _).drewN' _⟩
              rw [HX.out, belOk_false l x k (by rw [HS.out]; omega) _ hlt]
            · go_wp2
              go_quiet ((go_at_call 186; first | exact q_same2 (l3Weigh_any x _ _ _ (hu1.drewN _) (by omega) (by omega) (fun j hj => by have := HXB.out j hj; omega) (by omega)) | exact q_same (l3Weigh_any x _ _ _ (hu1.drewN _) (by omega) (by omega) (fun j hj => by have := HXB.out j hj; omega) (by omega))))
              go_wp2
              go_roundw
              case rel => exact ⟨k + 1, m + nq, by omega, by go_num, by rw [belOkTo, HO.out, decide_eq_true (by rw [HS.out]; omega)]; rfl, by simp⟩
              case measure => simp [intOf]; omega
          · have hlt2 : ¬ (k : Int) < (l.length : Int) := by omega
            have hkl : k = l.length := by omega
            have HK := Lib.hid hkl
            clear hkl
            go_wp2
            go_ret
            exact ⟨ret_bool (by rw [HX.out, ← HK.out, HO.out]), B1.drewN' _⟩
    · have hne : ((x.length : Int) != n) = true := by simp [hxl]
      have hx : belB n l x = false := by unfold belB isLongB; rw [hg, decide_eq_false hxl]; rfl
      have HX := Lib.hid hx
      clear hx hxl
      go_wp2
      go_ret
      exact ⟨by rw [HX.out]; rfl, B1⟩
end Go.Proofs.YtipejodijbjpcaaGreatDoor
end
section
namespace Go.Proofs.YtipejodijbjpcaaGreatDoor
open Go.RowKit Go.G5

def supB (n : Int) (l : List Int) : Bool := isFunB n l && subB n (negL l)
def modulB (n : Int) (l : List Int) : Bool := subB n l && supB n l
set_option maxHeartbeats 1000000 in
set_option maxRecDepth 100000 in
theorem supI_any (n : Int) (l : List Int) (v : Value) (w : World) (hv : Ints w v l) (hl : l.length ≤ 1048576) :
    Calls Tryz.prog 318 #[.agg #[.int .i64 n, v]] w fun e w' => e = .returned (.bool (supB n l)) ∧ Below w.heap.size w w' := by
  obtain ⟨a, c, rfl⟩ := hv.shape
  go_enter Tryz.func318, Tryz.ntmps318
  go_wp2_with fail
  refine (negI_c _ n _ l (hv.alloc _) hl).mono ?_
  rintro e w1 ⟨p1, i1, q1, rfl, o1, hb1⟩
  have B1 : Below w.heap.size w w1 := (bl1 _ _).after hb1 (by simp)
  clear hb1
  cases hf : isFunB n l with
  | false =>
    have hx : supB n l = false := by unfold supB; rw [hf]; rfl
    have HX := Lib.hid hx
    clear hx hf
    go_wp2
    go_ret
    exact ⟨by rw [HX.out]; rfl, B1.after (bl1 _ _) B1.size⟩
  | true =>
    have hx : supB n l = subB n (negL l) := by unfold supB; rw [hf]; rfl
    have hN : ngN n l = n := by unfold ngN; rw [hf]; rfl
    have hL : ngL n l = negL l := by unfold ngL; rw [hf]; rfl
    rw [hL] at o1
    rw [hN]
    have hnl : (negL l).length ≤ 1048576 := by rw [negL_len]; exact hl
    have HX := Lib.hid hx
    clear hx hN hL hf
    go_wp2_with fail
    refine (isSubI_any n (negL l) _ _ (o1.ints.alloc _) hnl).mono ?_
    rintro e w2 ⟨rfl, hb2⟩
    go_wp2
    go_ret
    exact ⟨by rw [HX.out]; rfl, (B1.after (bl1 _ _) B1.size).after hb2 (B1.after (bl1 _ _) B1.size).size⟩
set_option maxHeartbeats 1000000 in
set_option maxRecDepth 100000 in
theorem supS_any (n : Int) (l : List Int) (v : Value) (w : World) (hv : Ints w v l) (hl : l.length ≤ 1048576) :
    Calls Tryz.prog 294 #[.agg #[.int .i64 n, v]] w fun e w' => e = .returned (.bool (supB n l)) ∧ Below w.heap.size w w' := by
  obtain ⟨a, c, rfl⟩ := hv.shape
  go_enter Tryz.func294, Tryz.ntmps294
  go_wp2_with fail
  refine (negS_c _ n _ l (hv.alloc _) hl).mono ?_
  rintro e w1 ⟨p1, i1, q1, rfl, o1, hb1⟩
  have B1 : Below w.heap.size w w1 := (bl1 _ _).after hb1 (by simp)
  clear hb1
  cases hf : isFunB n l with
  | false =>
    have hx : supB n l = false := by unfold supB; rw [hf]; rfl
    have HX := Lib.hid hx
    clear hx hf
    go_wp2
    go_ret
    exact ⟨by rw [HX.out]; rfl, B1.after (bl1 _ _) B1.size⟩
  | true =>
    have hx : supB n l = subB n (negL l) := by unfold supB; rw [hf]; rfl
    have hN : ngN n l = n := by unfold ngN; rw [hf]; rfl
    have hL : ngL n l = negL l := by unfold ngL; rw [hf]; rfl
    rw [hL] at o1
    rw [hN]
    have hnl : (negL l).length ≤ 1048576 := by rw [negL_len]; exact hl
    have HX := Lib.hid hx
    clear hx hN hL hf
    go_wp2_with fail
    refine (isSubS_any n (negL l) _ _ (o1.ints.alloc _) hnl).mono ?_
    rintro e w2 ⟨rfl, hb2⟩
    go_wp2
    go_ret
    exact ⟨by rw [HX.out]; rfl, (B1.after (bl1 _ _) B1.size).after hb2 (B1.after (bl1 _ _) B1.size).size⟩
set_option maxHeartbeats 1000000 in
set_option maxRecDepth 100000 in
theorem modulI_any (n : Int) (l : List Int) (v : Value) (w : World) (hv : Ints w v l) (hl : l.length ≤ 1048576) :
    Calls Tryz.prog 249 #[.agg #[.int .i64 n, v]] w fun e w' => e = .returned (.bool (modulB n l)) ∧ Below w.heap.size w w' := by
  obtain ⟨a, c, rfl⟩ := hv.shape
  have K0 := Blk.new w 32 #[.int .i64 n, .slice a l.length c]
  go_enter Tryz.func249, Tryz.ntmps249
  go_wp2_with fail
  refine (isSubI_any n l _ _ (hv.alloc _) hl).mono ?_
  rintro e w1 ⟨rfl, hb1⟩
  have K1 := K0.keep hb1
  have B1 : Below w.heap.size w w1 := (bl1 _ _).after hb1 (by simp)
  clear hb1 K0
  cases hs : subB n l with
  | false =>
    have hx : modulB n l = false := by unfold modulB; rw [hs]; rfl
    have HX := Lib.hid hx
    clear hx hs
    go_wp2
    go_ret
    exact ⟨by rw [HX.out]; rfl, B1⟩
  | true =>
    have hx : modulB n l = supB n l := by unfold modulB; rw [hs]; rfl
    have HX := Lib.hid hx
    have G1 := K1.cell
    clear hx hs
    go_wp2_with fail
    refine (supI_any n l _ _ (hv.below B1 (Nat.le_refl _)) hl).mono ?_
    rintro e w2 ⟨rfl, hb2⟩
    go_wp2
    go_ret
    exact ⟨by rw [HX.out]; rfl, B1.after hb2 B1.size⟩
set_option maxHeartbeats 1000000 in
set_option maxRecDepth 100000 in
theorem modulS_any (n : Int) (l : List Int) (v : Value) (w : World) (hv : Ints w v l) (hl : l.length ≤ 1048576) :
    Calls Tryz.prog 190 #[.agg #[.int .i64 n, v]] w fun e w' => e = .returned (.bool (modulB n l)) ∧ Below w.heap.size w w' := by
  obtain ⟨a, c, rfl⟩ := hv.shape
  have K0 := Blk.new w 32 #[.int .i64 n, .slice a l.length c]
  go_enter Tryz.func190, Tryz.ntmps190
  go_wp2_with fail
  refine (isSubS_any n l _ _ (hv.alloc _) hl).mono ?_
  rintro e w1 ⟨rfl, hb1⟩
  have K1 := K0.keep hb1
  have B1 : Below w.heap.size w w1 := (bl1 _ _).after hb1 (by simp)
  clear hb1 K0
  cases hs : subB n l with
  | false =>
    have hx : modulB n l = false := by unfold modulB; rw [hs]; rfl
    have HX := Lib.hid hx
    clear hx hs
    go_wp2
    go_ret
    exact ⟨by rw [HX.out]; rfl, B1⟩
  | true =>
    have hx : modulB n l = supB n l := by unfold modulB; rw [hs]; rfl
    have HX := Lib.hid hx
    have G1 := K1.cell
    clear hx hs
    go_wp2_with fail
    refine (supS_any n l _ _ (hv.below B1 (Nat.le_refl _)) hl).mono ?_
    rintro e w2 ⟨rfl, hb2⟩
    go_wp2
    go_ret
    exact ⟨by rw [HX.out]; rfl, B1.after hb2 B1.size⟩
def baseB (n : Int) (l x : List Int) : Bool := belB n l x && (slackOf l x (2 ^ n.toNat - 1) == 0)
set_option maxHeartbeats 1000000 in
set_option maxRecDepth 100000 in
theorem isBaseI_any (w : World) (n : Int) (v : Value) (l : List Int) (hv : Ints w v l) (u : Value) (x : List Int) (hu : Ints w u x) :
    Calls Tryz.prog 18 #[.agg #[.int .i64 n, v], u] w fun e w' => e = .returned (.bool (baseB n l x)) ∧ Below w.heap.size w w' := by
  obtain ⟨a, c, rfl⟩ := hv.shape
  obtain ⟨au, cu, rfl⟩ := hu.shape
  have K0 := Blk.new w 32 #[.int .i64 n, .slice a l.length c]
  have B0 := bl1 w (.cells #[.int .i64 n, .slice a l.length c] 32)
  have hv0 := hv.alloc (.cells #[.int .i64 n, .slice a l.length c] 32)
  have hu0 := hu.alloc (.cells #[.int .i64 n, .slice a l.length c] 32)
  have z0 := B0.size
  obtain ⟨W0, hW0⟩ : ∃ W, W = w.alloc (.cells #[.int .i64 n, .slice a l.length c] 32) := ⟨_, rfl⟩
  rw [← hW0] at K0 B0 hv0 hu0 z0
  have G0 := K0.cell
  have e0 : ∀ y : Ext W0, y.w.cell? ⟨w.heap.size, 0, none⟩ = some (.int .i64 n) := fun y => y.cell (G0 0)
  have e1 : ∀ y : Ext W0, y.w.cell? ⟨w.heap.size, 1, none⟩ = some (.slice a l.length c) := fun y => y.cell (G0 1)
  have QB := Lib.hid (fun y : Ext W0 => isBelowI_any y.w n _ l (y.ints hv0) _ x (y.ints hu0))
  cases hb : belB n l x with
  | false =>
    have hx : baseB n l x = false := by unfold baseB; rw [hb]; rfl
    rw [hb] at QB
    have HX := Lib.hid hx
    clear hx hb G0
    go_enter Tryz.func18, Tryz.ntmps18
    go_wp2_with fail
    rw [← hW0]
    clear hW0
    refine wp_region_ext _ (by kernel_rfl) (by kernel_rfl) ?_
    repeat (first | go_big_quiet_skip | (go_big_quiet_want; go_big_quiet_op; first | go_big_quiet_on | (apply Exists.intro; refine ⟨fun _ => ?_, ?_⟩; (go_at_call 125; with_reducible exact ext_call (QB.out _)); go_big_quiet_on)))
    refine wpQuiet_nil ?_
    rintro w9 ⟨⟨w9, hb9⟩, rfl⟩
    try dsimp only
    go_wp2
    go_ret
    exact ⟨ret_bool HX.out.symm, B0.after hb9 B0.size⟩
  | true =>
    have hx : baseB n l x = (slackOf l x (2 ^ n.toNat - 1) == 0) := by unfold baseB; rw [hb]; rfl
    have hg : isGrB n l = true ∧ isLongB n x = true := by
      unfold belB at hb
      simp only [Bool.and_eq_true] at hb
      exact ⟨hb.1.1, hb.1.2⟩
    obtain ⟨N, rfl, hN5, hl2, hl32, hlb⟩ := fun_nat (grOk hg.1)
    obtain ⟨hx1, hx2⟩ := longOk hg.2
    have hpn := Nat.two_pow_pos N
    have hcast : ((2 ^ N - 1 : Nat) : Int) = (2 : Int) ^ (N : Int).toNat - 1 := by rw [Int.ofNat_sub hpn]; simp
    have QS := fun y : Ext W0 => slack_any N l _ x _ (2 ^ (N : Int).toNat - 1) y.w (y.ints hv0) (y.ints hu0) (by rw [← hcast]; omega) (by rw [← hcast]; omega) (by omega) hlb hx2 (by omega)
    have QA := Lib.hid (fun y : Ext W0 => allOf_any (N : Int) (.slice a l.length c) l y.w (y.ints hv0) (by omega) (by omega))
    simp only [Int.toNat_natCast] at QS hx
    obtain ⟨r, hr⟩ : ∃ r, r = slackOf l x (2 ^ N - 1) := ⟨_, rfl⟩
    rw [← hr] at hx
    simp only [← hr] at QS
    rw [hb] at QB
    have HX := Lib.hid hx
    have QS := Lib.hid QS
    clear hx hb G0 hr hg hl2 hlb hx1 hx2 hcast
    go_enter Tryz.func18, Tryz.ntmps18
    go_wp2_with fail
    rw [← hW0]
    clear hW0
    refine wp_region_ext _ (by kernel_rfl) (by kernel_rfl) ?_
    repeat (first | go_big_quiet_skip | (go_big_quiet_want; go_big_quiet_op; first | go_big_quiet_on | (apply Exists.intro; refine ⟨fun _ => ?_, ?_⟩; (first | (go_at_call 125; with_reducible exact ext_call (QB.out _)) | (go_at_call 127; with_reducible exact ext_call (QA.out _)) | (go_at_call 126; with_reducible exact ext_call (QS.out _))); go_big_quiet_on)))
    refine wpQuiet_nil ?_
    rintro w9 ⟨⟨w9, hb9⟩, rfl⟩
    try dsimp only
    go_wp2
    go_ret
    exact ⟨ret_bool HX.out.symm, B0.after hb9 B0.size⟩
end Go.Proofs.YtipejodijbjpcaaGreatDoor
end
