/- Functions with the opposite values; supermodular functions: both programs. Supermodular and modular functions; bases: both programs. Common independent sets and what bounds them: what is computed. Common independent sets: whether two functions are ranks of matroids alike; sets that are free. Vectors. -/
import Derived.Test.YtipejodijbjpcaaGreatDoorQ22
section
namespace Go.Proofs.YtipejodijbjpcaaGreatDoor
open Go.RowKit Go.G5

/-- the opposite of a value -/
def negF (l : List Int) (s : Nat) : Int := -(l.getD s 0)
def negL (l : List Int) : List Int := madeL (negF l) l.length
def ngN (n : Int) (l : List Int) : Int := if isFunB n l then n else 0
def ngL (n : Int) (l : List Int) : List Int := if isFunB n l then negL l else []
theorem negL_len (l : List Int) : (negL l).length = l.length := by unfold negL madeL; simp
theorem negF_at (l : List Int) (s : Nat) (h : s < l.length) : negF l s = -l[s] := by unfold negF; rw [getD_at l _ h]
theorem negL_at (l : List Int) (s : Nat) (h : s < l.length) : (negL l)[s]'(by rw [negL_len]; exact h) = -l[s] := by
  unfold negL madeL
  rw [List.getElem_map, List.getElem_range]
  exact negF_at l s h
theorem neg_fun (n : Int) (l : List Int) (h : isFunB n l = true) : isFunB n (negL l) = true := by
  obtain ⟨h0, h5, hlen, hlb⟩ := funOk h
  unfold isFunB allIn
  rw [negL_len, inB_true.2 ⟨h0, h5⟩, decide_eq_true hlen]
  simp only [Bool.true_and, List.all_eq_true]
  intro x hx
  obtain ⟨s, hs, rfl⟩ := List.getElem_of_mem hx
  rw [negL_len] at hs
  rw [negL_at l s hs]
  have := hlb s hs
  exact inB_true.2 ⟨by omega, by omega⟩

set_option maxHeartbeats 1000000 in
set_option maxRecDepth 100000 in
theorem negClosure (l : List Int) (v : Value) (g h s : Nat) (W : World) (hv : Ints W v l) (hs : s < l.length) (hlb : ∀ k, (hk : k < l.length) → -1000 ≤ l[k] ∧ l[k] ≤ 1000)
    (d0 : W.cell? ⟨h, 0, none⟩ = some (.int .i64 (-1))) (c1 : W.cell? ⟨g, 1, none⟩ = some v) :
    Calls Tryz.prog 380 #[.int .i64 s, .pointer (some ⟨h, 0, none⟩), .pointer (some ⟨g, 0, none⟩)] W fun e w' => e = .returned (.int .i64 (negF l s)) ∧ Below W.heap.size W w' := by
  obtain ⟨a, b, off, c, rfl, hlen, hix, hc, hb⟩ := hv.view Tryz.prog 22 3 Tryz.underlying22 intElem
  have hf := negF_at l s hs
  have hck := hc s hs
  have hixk := fun W => hix W s hs
  have hbd := hlb s hs
  obtain ⟨x, hx⟩ : ∃ x, x = l[s] := ⟨_, rfl⟩
  rw [← hx] at hf hck hbd
  have e0 : ∀ y : Ext W, y.w.cell? ⟨h, 0, none⟩ = some (.int .i64 (-1)) := fun y => y.cell d0
  have e1 : ∀ x : Ext W, x.w.cell? ⟨g, 1, none⟩ = some (.slice a l.length c) := fun x => x.cell c1
  have e2 : ∀ y : Ext W, y.w.cell? ⟨b, off + s, none⟩ = some (.int .i64 x) := fun y => y.cell hck
  have HF := Lib.hid hf
  clear hc hix hb hf hck hx hlb
  go_enter Tryz.func380, Tryz.ntmps380
  go_wp2_with fail
  refine wp_region_ext _ (by kernel_rfl) (by kernel_rfl) ?_
  repeat (first | go_big_quiet_skip | (go_big_quiet_want; go_big_quiet_op; first | go_big_quiet_on | (apply Exists.intro; refine ⟨fun _ => ?_, ?_⟩; (fail); go_big_quiet_on)))
  refine wpQuiet_nil ?_
  rintro w3 ⟨⟨w3, hb3⟩, rfl⟩
  try dsimp only
  go_wp2
  go_ret
  exact ⟨ret_int (by rw [HF.out]), hb3⟩
theorem negClosure_enters : ∀ args w, (callFunc 380 args).run Tryz.prog w = .ok (.enter 380 args) w := enters_of Tryz.func380 (by kernel_rfl) rfl

set_option maxHeartbeats 1000000 in
set_option maxRecDepth 100000 in
theorem negI_c (w : World) (n : Int) (v : Value) (l : List Int) (hv : Ints w v l) (_ : l.length ≤ 1048576) :
    Calls Tryz.prog 354 #[.agg #[.int .i64 n, v], .int .i64 (-1)] w fun e w' => ∃ ad i cp, e = .returned (.tuple #[.agg #[.int .i64 (ngN n l), .slice ad i cp], .bool (isFunB n l)]) ∧ OwnI 3 w.heap.size w' (.slice ad i cp) (ngL n l) ∧ Below w.heap.size w w' := by
  obtain ⟨a, c, rfl⟩ := hv.shape
  have hmf : ∀ (fn : Fn) (first cap : Array Value) (w : World), (Instr.makeFunc fn first cap).run Tryz.prog w = .ok (.func fn first cap) w := fun _ _ _ _ => rfl
  have HIN := Lib.hid (fun W => within_any (-1) (-1000) 1000 W)
  rw [show inB (-1) (-1000) 1000 = true by decide] at HIN
  go_enter Tryz.func354, Tryz.ntmps354
  go_wp2_with fail
  refine calls_named ?_
  intro V hV
  have B : Below w.heap.size w V := by rw [hV]; exact bl3 _ _ _ _
  have K1 : Blk V w.heap.size 32 #[.int .i64 n, .slice a l.length c] := by rw [hV]; exact ((Blk.new _ _ _).alloc _).alloc _
  have K1b : Blk V (w.heap.size + 1) 3 #[.int .i64 (-1)] := by rw [hV]; have := (Blk.new (w.alloc (.cells #[.int .i64 n, .slice a l.length c] 32)) 3 #[.int .i64 (-1)]).alloc (.cells #[.int .i64 0, .slice none 0 0] 32); simpa using this
  have K2 : Blk V (w.heap.size + 1 + 1) 32 #[.int .i64 0, .slice none 0 0] := by rw [hV]; have := Blk.new ((w.alloc (.cells #[.int .i64 n, .slice a l.length c] 32)).alloc (.cells #[.int .i64 (-1)] 3)) 32 #[.int .i64 0, .slice none 0 0]; simpa using this
  clear hV
  refine (isFunI_any n l _ _ (hv.below B (Nat.le_refl _))).mono ?_
  rintro e w1 ⟨rfl, hb1⟩
  have K1 := K1.keep hb1
  have K1b := K1b.keep hb1
  have G1b := K1b.cell
  have K2 := K2.keep hb1
  have B1 := B.after hb1 B.size
  have hv1 := hv.below B1 (Nat.le_refl _)
  clear B hb1
  have G1 := K1.cell
  have z1 := K1.lt
  have z2 := K2.lt
  cases hf : isFunB n l with
  | false =>
    have hN : ngN n l = 0 := by unfold ngN; rw [hf]; rfl
    have hL : ngL n l = [] := by unfold ngL; rw [hf]; rfl
    have HN := Lib.hid hN
    have HL := Lib.hid hL
    have HF := Lib.hid hf
    have G2 := K2.cell
    have F2 := K2.frozen
    clear hN hL
    go_wp2
    refine post_named ?_
    intro Wf hWf
    have K2f : Blk Wf (w.heap.size + 1 + 1) 32 #[.int .i64 0, .slice none 0 0] := by
      rw [hWf]
      have := (K2.set 0 (.int .i64 0)).set 1 (.slice none 0 0)
      simpa using this
    have Bf : Below w.heap.size w Wf := by rw [hWf]; exact Below.setCell (Below.setCell B1 (by first | omega | (simp; done) | (simp; omega)) _) (by first | omega | (simp; done) | (simp; omega)) _
    have Gf := K2f.cell
    clear hWf G1 G1b G2 F2
    exact bodyPost_ret (v := .tuple #[.agg #[.int .i64 0, .slice none 0 0], .bool false]) (by simp [results, Tryz.results354, go_sem, Gf]) rfl ⟨none, 0, 0, by rw [HN.out, HF.out], by rw [HL.out]; exact OwnI.nil _ _ _, Bf⟩
  | true =>
    obtain ⟨h0, h5, hlen, hlb⟩ := funOk hf
    obtain ⟨N, rfl⟩ := Int.eq_ofNat_of_zero_le h0
    have hN5 : N ≤ 5 := by omega
    have hl2 : l.length = 2 ^ N := by
      have e2 : (N : Int).toNat = N := by omega
      rw [e2] at hlen
      exact_mod_cast hlen
    have hN : ngN N l = N := by unfold ngN; rw [hf]; rfl
    have hL : ngL N l = negL l := by unfold ngL; rw [hf]; rfl
    have hmade : madeL (negF l) (2 ^ N) = negL l := by unfold negL; rw [hl2]
    have hfo : isFunB N (madeL (negF l) (2 ^ N)) = true := by rw [hmade]; exact neg_fun N l hf
    have hmk : ∀ W, Ints W (.slice a l.length c) l → W.cell? ⟨w.heap.size + 1, 0, none⟩ = some (.int .i64 (-1)) → W.cell? ⟨w.heap.size, 1, none⟩ = some (.slice a l.length c) → Calls Tryz.prog 273 #[.int .i64 N, .func (.func 380) #[] #[.pointer (some ⟨w.heap.size + 1, 0, none⟩), .pointer (some ⟨w.heap.size, 0, none⟩)]] W fun e w' =>
        ∃ ad i cp, e = .returned (.tuple #[.agg #[.int .i64 N, .slice ad i cp], .bool true]) ∧ OwnI 3 W.heap.size w' (.slice ad i cp) (negL l) ∧ Below W.heap.size W w' := fun W hW c0 c1 => by
      have := makeFunction2_any W N hN5 380 negClosure_enters (w.heap.size + 1) w.heap.size (negF l) (fun s hs => by rw [negF_at l s (by omega)]; have := hlb s (by omega); exact ⟨by omega, by omega⟩)
        (fun s W' hs hB => negClosure l _ w.heap.size (w.heap.size + 1) s W' (hW.keep hB) (by omega) hlb (keep hB c0) (keep hB c1))
      rw [hfo, if_pos rfl, if_pos rfl, hmade] at this
      exact this
    have HN := Lib.hid hN
    have HL := Lib.hid hL
    have HF := Lib.hid hf
    have HMK := Lib.hid hmk
    clear hN hL hf hmade hfo hmk hl2 hlen hlb
    go_wp2_with fail
    refine (HIN.out _).mono ?_
    rintro e w2 ⟨rfl, rfl⟩
    go_wp2_with fail
    refine (HMK.out _ hv1 (G1b 0) (G1 1)).mono ?_
    rintro e w3 ⟨p3, i3, q3, rfl, o3, hb3⟩
    have K2 := K2.keep hb3
    have B3 := B1.after hb3 B1.size
    have G2 := K2.cell
    have F2 := K2.frozen
    have z3 := K2.lt
    clear G1 G1b hb3
    go_wp2
    refine post_named ?_
    intro Wf hWf
    have K2f : Blk Wf (w.heap.size + 1 + 1) 32 #[.int .i64 N, .slice p3 i3 q3] := by
      rw [hWf]
      have := (K2.set 0 (.int .i64 N)).set 1 (.slice p3 i3 q3)
      simpa using this
    have Bf : Below w.heap.size w Wf := by rw [hWf]; exact Below.setCell (Below.setCell B3 (by first | omega | (simp; done) | (simp; omega)) _) (by first | omega | (simp; done) | (simp; omega)) _
    have of : OwnI 3 w.heap.size Wf (.slice p3 i3 q3) (negL l) := by rw [hWf]; exact ((o3.setBelow (by first | omega | (simp; done) | (simp; omega)) _).setBelow (by first | omega | (simp; done) | (simp; omega)) _).mono (by first | omega | (simp; done) | (simp; omega))
    have Gf := K2f.cell
    clear hWf G2 F2
    exact bodyPost_ret (v := .tuple #[.agg #[.int .i64 N, .slice p3 i3 q3], .bool true]) (by simp [results, Tryz.results354, go_sem, Gf]) rfl ⟨p3, i3, q3, by rw [HN.out, HF.out], by rw [HL.out]; exact of, Bf⟩



end Go.Proofs.YtipejodijbjpcaaGreatDoor
end
section
namespace Go.Proofs.YtipejodijbjpcaaGreatDoor
open Go.RowKit Go.G5

def supB (n : Int) (l : List Int) : Bool := isFunB n l && subB n (negL l)
def modulB (n : Int) (l : List Int) : Bool := subB n l && supB n l
set_option maxHeartbeats 1000000 in
set_option maxRecDepth 100000 in
theorem supI_any (n : Int) (l : List Int) (v : Value) (w : World) (hv : Ints w v l) (hl : l.length ≤ 1048576) :
    Calls Tryz.prog 318 #[.agg #[.int .i64 n, v]] w fun e w' => e = .returned (.bool (supB n l)) ∧ Below w.heap.size w w' := by
  obtain ⟨a, c, rfl⟩ := hv.shape
  go_enter Tryz.func318, Tryz.ntmps318
  go_wp2_with fail
  refine (negI_c _ n _ l (hv.alloc _) hl).mono ?_
  rintro e w1 ⟨p1, i1, q1, rfl, o1, hb1⟩
  have B1 : Below w.heap.size w w1 := (bl1 _ _).after hb1 (by simp)
  clear hb1
  cases hf : isFunB n l with
  | false =>
    have hx : supB n l = false := by unfold supB; rw [hf]; rfl
    have HX := Lib.hid hx
    clear hx hf
    go_wp2
    go_ret
    exact ⟨by rw [HX.out]; rfl, B1.after (bl1 _ _) B1.size⟩
  | true =>
    have hx : supB n l = subB n (negL l) := by unfold supB; rw [hf]; rfl
    have hN : ngN n l = n := by unfold ngN; rw [hf]; rfl
    have hL : ngL n l = negL l := by unfold ngL; rw [hf]; rfl
    rw [hL] at o1
    rw [hN]
    have hnl : (negL l).length ≤ 1048576 := by rw [negL_len]; exact hl
    have HX := Lib.hid hx
    clear hx hN hL hf
    go_wp2_with fail
    refine (isSubI_any n (negL l) _ _ (o1.ints.alloc _) hnl).mono ?_
    rintro e w2 ⟨rfl, hb2⟩
    go_wp2
    go_ret
    exact ⟨by rw [HX.out]; rfl, (B1.after (bl1 _ _) B1.size).after hb2 (B1.after (bl1 _ _) B1.size).size⟩
set_option maxHeartbeats 1000000 in
set_option maxRecDepth 100000 in
theorem modulI_any (n : Int) (l : List Int) (v : Value) (w : World) (hv : Ints w v l) (hl : l.length ≤ 1048576) :
    Calls Tryz.prog 249 #[.agg #[.int .i64 n, v]] w fun e w' => e = .returned (.bool (modulB n l)) ∧ Below w.heap.size w w' := by
  obtain ⟨a, c, rfl⟩ := hv.shape
  have K0 := Blk.new w 32 #[.int .i64 n, .slice a l.length c]
  go_enter Tryz.func249, Tryz.ntmps249
  go_wp2_with fail
  refine (isSubI_any n l _ _ (hv.alloc _) hl).mono ?_
  rintro e w1 ⟨rfl, hb1⟩
  have K1 := K0.keep hb1
  have B1 : Below w.heap.size w w1 := (bl1 _ _).after hb1 (by simp)
  clear hb1 K0
  cases hs : subB n l with
  | false =>
    have hx : modulB n l = false := by unfold modulB; rw [hs]; rfl
    have HX := Lib.hid hx
    clear hx hs
    go_wp2
    go_ret
    exact ⟨by rw [HX.out]; rfl, B1⟩
  | true =>
    have hx : modulB n l = supB n l := by unfold modulB; rw [hs]; rfl
    have HX := Lib.hid hx
    have G1 := K1.cell
    clear hx hs
    go_wp2_with fail
    refine (supI_any n l _ _ (hv.below B1 (Nat.le_refl _)) hl).mono ?_
    rintro e w2 ⟨rfl, hb2⟩
    go_wp2
    go_ret
    exact ⟨by rw [HX.out]; rfl, B1.after hb2 B1.size⟩
def baseB (n : Int) (l x : List Int) : Bool := belB n l x && (slackOf l x (2 ^ n.toNat - 1) == 0)
set_option maxHeartbeats 1000000 in
set_option maxRecDepth 100000 in
theorem isBaseI_any (w : World) (n : Int) (v : Value) (l : List Int) (hv : Ints w v l) (u : Value) (x : List Int) (hu : Ints w u x) :
    Calls Tryz.prog 18 #[.agg #[.int .i64 n, v], u] w fun e w' => e = .returned (.bool (baseB n l x)) ∧ Below w.heap.size w w' := by
  obtain ⟨a, c, rfl⟩ := hv.shape
  obtain ⟨au, cu, rfl⟩ := hu.shape
  have K0 := Blk.new w 32 #[.int .i64 n, .slice a l.length c]
  have B0 := bl1 w (.cells #[.int .i64 n, .slice a l.length c] 32)
  have hv0 := hv.alloc (.cells #[.int .i64 n, .slice a l.length c] 32)
  have hu0 := hu.alloc (.cells #[.int .i64 n, .slice a l.length c] 32)
  have z0 := B0.size
  obtain ⟨W0, hW0⟩ : ∃ W, W = w.alloc (.cells #[.int .i64 n, .slice a l.length c] 32) := ⟨_, rfl⟩
  rw [← hW0] at K0 B0 hv0 hu0 z0
  have G0 := K0.cell
  have e0 : ∀ y : Ext W0, y.w.cell? ⟨w.heap.size, 0, none⟩ = some (.int .i64 n) := fun y => y.cell (G0 0)
  have e1 : ∀ y : Ext W0, y.w.cell? ⟨w.heap.size, 1, none⟩ = some (.slice a l.length c) := fun y => y.cell (G0 1)
  have QB := Lib.hid (fun y : Ext W0 => isBelowI_any y.w n _ l (y.ints hv0) _ x (y.ints hu0))
  cases hb : belB n l x with
  | false =>
    have hx : baseB n l x = false := by unfold baseB; rw [hb]; rfl
    rw [hb] at QB
    have HX := Lib.hid hx
    clear hx hb G0
    go_enter Tryz.func18, Tryz.ntmps18
    go_wp2_with fail
    rw [← hW0]
    clear hW0
    refine wp_region_ext _ (by kernel_rfl) (by kernel_rfl) ?_
    repeat (first | go_big_quiet_skip | (go_big_quiet_want; go_big_quiet_op; first | go_big_quiet_on | (apply Exists.intro; refine ⟨fun _ => ?_, ?_⟩; (go_at_call 125; with_reducible exact ext_call (QB.out _)); go_big_quiet_on)))
    refine wpQuiet_nil ?_
    rintro w9 ⟨⟨w9, hb9⟩, rfl⟩
    try dsimp only
    go_wp2
    go_ret
    exact ⟨ret_bool HX.out.symm, B0.after hb9 B0.size⟩
  | true =>
    have hx : baseB n l x = (slackOf l x (2 ^ n.toNat - 1) == 0) := by unfold baseB; rw [hb]; rfl
    have hg : isGrB n l = true ∧ isLongB n x = true := by
      unfold belB at hb
      simp only [Bool.and_eq_true] at hb
      exact ⟨hb.1.1, hb.1.2⟩
    obtain ⟨N, rfl, hN5, hl2, hl32, hlb⟩ := fun_nat (grOk hg.1)
    obtain ⟨hx1, hx2⟩ := longOk hg.2
    have hpn := Nat.two_pow_pos N
    have hcast : ((2 ^ N - 1 : Nat) : Int) = (2 : Int) ^ (N : Int).toNat - 1 := by rw [Int.ofNat_sub hpn]; simp
    have QS := fun y : Ext W0 => slack_any N l _ x _ (2 ^ (N : Int).toNat - 1) y.w (y.ints hv0) (y.ints hu0) (by rw [← hcast]; omega) (by rw [← hcast]; omega) (by omega) hlb hx2 (by omega)
    have QA := Lib.hid (fun y : Ext W0 => allOf_any (N : Int) (.slice a l.length c) l y.w (y.ints hv0) (by omega) (by omega))
    simp only [Int.toNat_natCast] at QS hx
    obtain ⟨r, hr⟩ : ∃ r, r = slackOf l x (2 ^ N - 1) := ⟨_, rfl⟩
    rw [← hr] at hx
    simp only [← hr] at QS
    rw [hb] at QB
    have HX := Lib.hid hx
    have QS := Lib.hid QS
    clear hx hb G0 hr hg hl2 hlb hx1 hx2 hcast
    go_enter Tryz.func18, Tryz.ntmps18
    go_wp2_with fail
    rw [← hW0]
    clear hW0
    refine wp_region_ext _ (by kernel_rfl) (by kernel_rfl) ?_
    repeat (first | go_big_quiet_skip | (go_big_quiet_want; go_big_quiet_op; first | go_big_quiet_on | (apply Exists.intro; refine ⟨fun _ => ?_, ?_⟩; (first | (go_at_call 125; with_reducible exact ext_call (QB.out _)) | (go_at_call 127; with_reducible exact ext_call (QA.out _)) | (go_at_call 126; with_reducible exact ext_call (QS.out _))); go_big_quiet_on)))
    refine wpQuiet_nil ?_
    rintro w9 ⟨⟨w9, hb9⟩, rfl⟩
    try dsimp only
    go_wp2
    go_ret
    exact ⟨ret_bool HX.out.symm, B0.after hb9 B0.size⟩
end Go.Proofs.YtipejodijbjpcaaGreatDoor
end
section
namespace Go.Proofs.YtipejodijbjpcaaGreatDoor
open Go.RowKit Go.G5

def comB (n : Int) (l : List Int) (m : Int) (k : List Int) : Bool := (rankB n l && rankB m k) && decide (n = m)
def freeB (l : List Int) (s : Nat) : Bool := decide (l.getD s 0 = (pop s : Int))
theorem com_fun {n m : Int} {l k : List Int} (h : comB n l m k = true) : m = n ∧ ∃ N : Nat, n = N ∧ N ≤ 5 ∧ l.length = 2 ^ N ∧ l.length ≤ 32 ∧ k.length = l.length ∧ (∀ i, (hi : i < l.length) → -1000 ≤ l[i] ∧ l[i] ≤ 1000) ∧ (∀ i, (hi : i < k.length) → -1000 ≤ k[i] ∧ k[i] ≤ 1000) := by
  unfold comB rankB at h
  simp only [Bool.and_eq_true, decide_eq_true_eq] at h
  obtain ⟨⟨⟨h1, _⟩, h2, _⟩, rfl⟩ := h
  obtain ⟨N, rfl, hN5, hl2, hl32, hlb⟩ := fun_nat (poly_fun h1)
  obtain ⟨M, hM, hM5, hk2, hk32, hkb⟩ := fun_nat (poly_fun h2)
  have : N = M := by omega
  subst this
  exact ⟨rfl, N, rfl, hN5, hl2, hl32, by omega, hlb, hkb⟩
end Go.Proofs.YtipejodijbjpcaaGreatDoor
end
section
namespace Go.Proofs.YtipejodijbjpcaaGreatDoor
open Go.RowKit Go.G5

theorem beq_dec (a b : Int) : (a == b) = decide (a = b) := by by_cases h : a = b <;> simp [h]
set_option maxHeartbeats 1000000 in
set_option maxRecDepth 100000 in
theorem areMatI_any (w : World) (n : Int) (v : Value) (l : List Int) (hv : Ints w v l) (hl : l.length ≤ 1048576) (m : Int) (u : Value) (k : List Int) (hu : Ints w u k) (hk : k.length ≤ 1048576) :
    Calls Tryz.prog 253 #[.agg #[.int .i64 n, v], .agg #[.int .i64 m, u]] w fun e w' => e = .returned (.bool (comB n l m k)) ∧ Below w.heap.size w w' := by
  obtain ⟨a, c, rfl⟩ := hv.shape
  obtain ⟨b, d, rfl⟩ := hu.shape
  go_enter Tryz.func253, Tryz.ntmps253
  go_wp2_with fail
  refine calls_named ?_
  intro V hV
  have B : Below w.heap.size w V := by rw [hV]; exact bl2 _ _ _
  have K1 : Blk V w.heap.size 32 #[.int .i64 n, .slice a l.length c] := by rw [hV]; exact (Blk.new _ _ _).alloc _
  have K2 : Blk V (w.heap.size + 1) 32 #[.int .i64 m, .slice b k.length d] := by rw [hV]; have := Blk.new (w.alloc (.cells #[.int .i64 n, .slice a l.length c] 32)) 32 #[.int .i64 m, .slice b k.length d]; simpa using this
  clear hV
  refine (rankI_any n l _ V (hv.below B (Nat.le_refl _)) hl).mono ?_
  rintro e w1 ⟨rfl, b1⟩
  have K1 := K1.keep b1
  have K2 := K2.keep b1
  have B := B.after b1 B.size
  have z2 := K2.lt
  cases h1 : rankB n l with
  | false =>
    have hx : comB n l m k = false := by unfold comB; rw [h1]; rfl
    have HX := Lib.hid hx
    clear hx h1
    have G1 := K1.cell
    have G2 := K2.cell
    go_wp2
    go_ret
    exact ⟨ret_bool HX.out.symm, B⟩
  | true =>
    have H1 := Lib.hid h1
    clear h1
    have G2 := K2.cell
    go_wp2_with fail
    clear G2
    refine (rankI_any m k _ w1 (hu.below B (Nat.le_refl _)) hk).mono ?_
    rintro e w2 ⟨rfl, b2⟩
    have K1 := K1.keep b2
    have K2 := K2.keep b2
    have B := B.after b2 B.size
    have hx : comB n l m k = (rankB m k && decide (n = m)) := by unfold comB; rw [H1.out]; rfl
    have HX := Lib.hid hx
    clear hx
    have G1 := K1.cell
    have G2 := K2.cell
    have z2 := K2.lt
    cases h2 : rankB m k with
    | false =>
      have H2 := Lib.hid h2
      clear h2
      go_wp2
      go_ret
      exact ⟨ret_bool (by rw [HX.out, H2.out]; rfl), B⟩
    | true =>
      have H2 := Lib.hid h2
      clear h2
      go_wp2
      go_ret
      exact ⟨ret_bool (by rw [HX.out, H2.out, Bool.true_and]; exact beq_dec n m), B⟩
set_option maxHeartbeats 1000000 in
set_option maxRecDepth 100000 in
theorem isFree_any (w : World) (n : Int) (v : Value) (l : List Int) (hv : Ints w v l) (s : Nat) (hs : s < l.length) (hs2 : s < 64) :
    Calls Tryz.prog 282 #[.agg #[.int .i64 n, v], .int .i64 s] w fun e w' => e = .returned (.bool (freeB l s)) ∧ Below w.heap.size w w' := by
  have hv0 := hv
  obtain ⟨a, b, off, c, rfl, hlen, hix, hc, hb⟩ := hv.view Tryz.prog 22 3 Tryz.underlying22 intElem
  obtain ⟨V, hV⟩ : ∃ V, V = w.alloc (.cells #[.int .i64 n, .slice a l.length c] 32) := ⟨_, rfl⟩
  have B : Below w.heap.size w V := by rw [hV]; exact bl1 _ _
  have K1 : Blk V w.heap.size 32 #[.int .i64 n, .slice a l.length c] := by rw [hV]; exact Blk.new _ _ _
  have ck := cells_below hc hb B (Nat.le_refl _) s hs
  have ik := fun W => hix W s hs
  have hg : l.getD s 0 = l[s] := getD_at l s hs
  have hfr : freeB l s = decide (l[s] = (pop s : Int)) := by unfold freeB; rw [hg]
  obtain ⟨x, hx⟩ : ∃ x, x = l[s] := ⟨_, rfl⟩
  rw [← hx] at ck hfr
  have HFR := Lib.hid hfr
  have HS := Lib.hid (fun W => sizeOf_any s W (by omega))
  have e1 : ∀ y : Ext V, y.w.cell? ⟨w.heap.size, 1, none⟩ = some (.slice a l.length c) := fun y => y.cell (K1.cell 1)
  have e2 : ∀ y : Ext V, y.w.cell? ⟨b, off + s, none⟩ = some (.int .i64 x) := fun y => y.cell ck
  clear hc hix hb hg hfr hx ck
  go_enter Tryz.func282, Tryz.ntmps282
  go_wp2_with fail
  rw [← hV]
  clear hV
  refine wp_region_ext _ (by kernel_rfl) (by kernel_rfl) ?_
  repeat (first | go_big_quiet_skip | (go_big_quiet_want; go_big_quiet_op; first | go_big_quiet_on | (apply Exists.intro; refine ⟨fun _ => ?_, ?_⟩; (go_at_call 170; exact ext_same (HS.out _)); go_big_quiet_on)))
  refine wpQuiet_nil ?_
  rintro w3 ⟨⟨w3, hb3⟩, rfl⟩
  try dsimp only
  go_wp2
  go_ret
  exact ⟨ret_bool (by rw [HFR.out]; exact beq_dec _ _), B.after hb3 B.size⟩
end Go.Proofs.YtipejodijbjpcaaGreatDoor
end
section
namespace Go.Proofs.YtipejodijbjpcaaGreatDoor
open Go.RowKit Go.G5

def vecB (x : List Int) : Bool := decide (x.length ≤ 5) && allIn x (-1000) 1000
set_option maxHeartbeats 400000 in
theorem isVector_any (x : List Int) (v : Value) (w : World) (hv : Ints w v x) :
    Calls Tryz.prog 367 #[v] w fun e w' => e = .returned (.bool (vecB x)) ∧ w = w' := by
  have hv0 := hv
  obtain ⟨a, c, rfl⟩ := hv.shape
  by_cases h5 : x.length ≤ 5
  · have h5i : (x.length : Int) ≤ 5 := by omega
    have hx : vecB x = allIn x (-1000) 1000 := by unfold vecB; rw [decide_eq_true h5, Bool.true_and]
    have HX := Lib.hid hx
    have HAW := Lib.hid (areWithin_any x _ (-1000) 1000 w hv0)
    clear hx
    go_enter Tryz.func367, Tryz.ntmps367
    go_wp2_with fail
    refine HAW.out.mono ?_
    rintro e w1 ⟨rfl, rfl⟩
    go_wp2
    go_ret
    exact ⟨ret_bool HX.out.symm, rfl⟩
  · have h5i : ¬ (x.length : Int) ≤ 5 := by omega
    have hx : vecB x = false := by unfold vecB; rw [decide_eq_false h5]; rfl
    have HX := Lib.hid hx
    clear hx
    go_enter Tryz.func367, Tryz.ntmps367
    go_wp2
    go_ret
    exact ⟨ret_bool HX.out.symm, rfl⟩
def optB (n : Int) (l x : List Int) : Bool := (isGrB n l && subB n l) && (vecB x && decide ((x.length : Int) = n))
set_option maxHeartbeats 400000 in
theorem isVectorFor_any (n : Int) (v : Value) (l : List Int) (w : World) (hv : Ints w v l) (u : Value) (x : List Int) (hu : Ints w u x) :
    Calls Tryz.prog 329 #[.agg #[.int .i64 n, v], u] w fun e w' => e = .returned (.bool (vecB x && decide ((x.length : Int) = n))) ∧ Below w.heap.size w w' := by
  obtain ⟨a, c, rfl⟩ := hv.shape
  obtain ⟨V, hV⟩ : ∃ V, V = w.alloc (.cells #[.int .i64 n, .slice a l.length c] 32) := ⟨_, rfl⟩
  have B : Below w.heap.size w V := by rw [hV]; exact bl1 _ _
  have K : Blk V w.heap.size 32 #[.int .i64 n, .slice a l.length c] := by rw [hV]; exact Blk.new _ _ _
  have HV := Lib.hid (isVector_any x u V (hu.below B (Nat.le_refl _)))
  obtain ⟨b, d, rfl⟩ := hu.shape
  have G := K.cell
  cases h : vecB x with
  | false =>
    rw [h] at HV
    go_enter Tryz.func329, Tryz.ntmps329
    go_wp2_with fail
    rw [← hV]
    clear hV
    refine HV.out.mono ?_
    rintro e w1 ⟨rfl, rfl⟩
    go_wp2
    go_ret
    exact ⟨ret_bool (by simp), B⟩
  | true =>
    rw [h] at HV
    go_enter Tryz.func329, Tryz.ntmps329
    go_wp2_with fail
    rw [← hV]
    clear hV
    refine HV.out.mono ?_
    rintro e w1 ⟨rfl, rfl⟩
    go_wp2
    go_ret
    exact ⟨ret_bool (by rw [Bool.true_and]; exact beq_dec _ _), B⟩

set_option maxHeartbeats 1000000 in
theorem canOptI_any (w : World) (n : Int) (v : Value) (l : List Int) (hv : Ints w v l) (hl : l.length ≤ 1048576) (u : Value) (x : List Int) (hu : Ints w u x) :
    Calls Tryz.prog 275 #[.agg #[.int .i64 n, v], u] w fun e w' => e = .returned (.bool (optB n l x)) ∧ Below w.heap.size w w' := by
  obtain ⟨a, c, rfl⟩ := hv.shape
  obtain ⟨b, d, rfl⟩ := hu.shape
  obtain ⟨V, hV⟩ : ∃ V, V = w.alloc (.cells #[.int .i64 n, .slice a l.length c] 32) := ⟨_, rfl⟩
  have B : Below w.heap.size w V := by rw [hV]; exact bl1 _ _
  have K : Blk V w.heap.size 32 #[.int .i64 n, .slice a l.length c] := by rw [hV]; exact Blk.new _ _ _
  go_enter Tryz.func275, Tryz.ntmps275
  go_wp2_with fail
  rw [← hV]
  clear hV
  refine (isGrI_any n l _ V (hv.below B (Nat.le_refl _))).mono ?_
  rintro e w1 ⟨rfl, b1⟩
  have K := K.keep b1
  have B := B.after b1 B.size
  have G := K.cell
  have z := K.lt
  cases hg : isGrB n l with
  | false =>
    have hx : optB n l x = false := by unfold optB; rw [hg]; rfl
    have HX := Lib.hid hx
    clear hx hg
    go_wp2
    go_ret
    exact ⟨ret_bool HX.out.symm, B⟩
  | true =>
  have HG := Lib.hid hg
  clear hg
  go_wp2_with fail
  clear G z
  refine (isSubI_any n l _ w1 (hv.below B (Nat.le_refl _)) hl).mono ?_
  rintro e w2 ⟨rfl, b2⟩
  have K := K.keep b2
  have B := B.after b2 B.size
  have G := K.cell
  have z := K.lt
  cases hs : subB n l with
  | false =>
    have hx : optB n l x = false := by unfold optB; rw [hs]; simp
    have HX := Lib.hid hx
    clear hx hs
    go_wp2
    go_ret
    exact ⟨ret_bool HX.out.symm, B⟩
  | true =>
  have hx : optB n l x = (vecB x && decide ((x.length : Int) = n)) := by unfold optB; rw [HG.out, hs]; rfl
  have HX := Lib.hid hx
  clear hx hs
  go_wp2_with fail
  clear z
  refine (isVectorFor_any n _ l w2 (hv.below B (Nat.le_refl _)) _ x (hu.below B (Nat.le_refl _))).mono ?_
  rintro e w3 ⟨rfl, b3⟩
  go_wp2
  go_ret
  exact ⟨ret_bool HX.out.symm, B.after b3 B.size⟩
end Go.Proofs.YtipejodijbjpcaaGreatDoor
end
