/- Functions of masses. Minimum cuts: what is computed. Games. -/
import Derived.Test.YtipejodijbjpcaaGreatDoorQ18
import Derived.Deep.AppendLies
import Derived.Deep.RegionLaw
import Derived.Deep.RegionHeld3
section
namespace Go.Proofs.YtipejodijbjpcaaGreatDoor
open Go.RowKit Go.G5

/-- the sum of the masses of the parts of s below k -/
def sumTo (m : List Int) (s : Nat) : Nat → Int
  | 0 => 0
  | k + 1 => if ndiff k s = 0 then sumTo m s k + m.getD k 0 else sumTo m s k
theorem sumTo_bd (m : List Int) (s : Nat) (h : ∀ k, (hk : k < m.length) → -100000 ≤ m[k] ∧ m[k] ≤ 100000) (k : Nat) (hk : k ≤ m.length) : -100000 * (k : Int) ≤ sumTo m s k ∧ sumTo m s k ≤ 100000 * (k : Int) := by
  induction k with
  | zero => simp [sumTo]
  | succ k ih =>
    have h1 := ih (by omega)
    have h2 := h k (by omega)
    rw [sumTo, List.getD_eq_getElem?_getD, List.getElem?_eq_getElem (show k < m.length by omega), Option.getD_some]
    split <;> omega

/-- the values of a function given by its numbers -/
def madeL (F : Nat → Int) (k : Nat) : List Int := (List.range k).map F
theorem madeL_succ (F : Nat → Int) (k : Nat) : madeL F (k + 1) = madeL F k ++ [F k] := by unfold madeL; rw [List.range_succ, List.map_append]; rfl

set_option maxHeartbeats 2000000 in
set_option maxRecDepth 100000 in
theorem makeFunction_any (w : World) (n : Nat) (hn : n ≤ 5) (c : FuncId) (he : ∀ args w, (callFunc c args).run Tryz.prog w = .ok (.enter c args) w) (g : Nat) (F : Nat → Int) (hF : ∀ s, s < 2 ^ n → InR (F s))
    (hw : ∀ (s : Nat) W', s < 2 ^ n → Below w.heap.size w W' → Calls Tryz.prog c #[.int .i64 (s : Int), .pointer (some ⟨g, 0, none⟩)] W' fun e w2 => e = .returned (.int .i64 (F s)) ∧ Below W'.heap.size W' w2) :
    Calls Tryz.prog 273 #[.int .i64 (n : Int), .func (.func c) #[] #[.pointer (some ⟨g, 0, none⟩)]] w fun e w' =>
      ∃ ad i cp, e = .returned (.tuple #[.agg #[.int .i64 (if isFunB n (madeL F (2 ^ n)) then (n : Int) else 0), .slice ad i cp], .bool (isFunB n (madeL F (2 ^ n)))]) ∧ OwnI 3 w.heap.size w' (.slice ad i cp) (if isFunB n (madeL F (2 ^ n)) then madeL F (2 ^ n) else []) ∧ Below w.heap.size w w' := by
  have hpn : (2 : Nat) ^ n ≤ 32 := Nat.pow_le_pow_right (by decide) hn
  have hp1 := Nat.two_pow_pos n
  have hpi : ((2 ^ n : Nat) : Int) = (2 : Int) ^ n := by simp
  obtain ⟨N, hN⟩ : ∃ N : Nat, N = 2 ^ n := ⟨_, rfl⟩
  rw [← hN] at hw hF hpn hp1 hpi ⊢
  clear hN
  have r0 := (BoxAt.new w (.int .i64 0) (.slice none 0 0) 32)
  have r1 := r0.keep (bl1 _ (.cells #[.int .i64 n, .slice none 0 0] 32))
  have b1 := BoxAt.new (w.alloc (.cells #[.int .i64 0, .slice none 0 0] 32)) (.int .i64 n) (.slice none 0 0) 32
  go_enter Tryz.func273, Tryz.ntmps273
  go_wp2_with fail
  go_loopw [13] (fun i wr => ∃ (k : Nat) (ad : Option Addr) (nn cp : Nat), k ≤ N ∧ i = .int .i64 k ∧ OwnI 3 (w.heap.size + 1 + 1) wr (.slice ad nn cp) (madeL F k) ∧ Below w.heap.size w wr ∧
      BoxAt wr w.heap.size (.int .i64 0) (.slice none 0 0) ∧ BoxAt wr (w.heap.size + 1) (.int .i64 n) (.slice ad nn cp))
    (fun i _ => N - (intOf i).toNat)
  case atStart => exact ⟨0, none, 0, 0, Nat.zero_le _, rfl, OwnI.nil _ _ _, (by repeat (first | exact Below.refl _ _ | (with_reducible refine Below.setCell ?_ (by first | omega | (simp; done) | (simp; omega)) _) | (with_reducible refine Below.alloc ?_ (by first | omega | (simp; done) | (simp; omega)) _) | (with_reducible refine Below.drewN' ?_ _) | (with_reducible refine Below.drew ?_) | (with_reducible assumption) | refine Below.trans ?_ (Below.mono (by assumption) (by first | omega | (simp; done) | (simp; omega))))), r1, by simpa using b1⟩
  case round =>
    obtain ⟨k, ad, nn, cp, hk, rfl, ho, B, R, X⟩ := hrel
    clear r0 r1 b1
    by_cases hlt : k < N
    · have hlt2 : (k : Int) < 2 ^ n := by rw [← hpi]; exact_mod_cast hlt
      have zr := R.lt
      have zx := X.lt
      have hFk := hF k hlt
      have hlen : (madeL F k).length = k := by simp [madeL]
      have hlk : (madeL F k).length ≤ 64 := by omega
      have hrow := ho.lt
      have HO := Lib.hid ho
      have HR := Lib.hid R
      have HXX := Lib.hid X
      obtain ⟨e0, e1, g0, g1⟩ := X
      clear ho R
      have hcl := hw k wr.drew hlt B.drew
      clear hw
      go_wp2
      go_region_law
        (first
          | (go_simp; go_at_fn c; refine hcl.mono ?_; rintro e w2 ⟨rfl, hb2⟩; have X2 := HXX.out.keep ((Below.refl _ _).drew.after hb2 (Nat.le_refl _)); have X3 := X2.keep (bl1 w2 (.cells #[.int .i64 (F k)] 3)); have zz2 := X2.lt; have x1 := X2.d1; have x2 := X2.f1; have x3 := X3.d1; have x4 := X3.f1)
          | (refine step_appendI rfl _ _ _ rfl 3 Tryz.underlying22 intElem (w.heap.size + 1 + 1) _ _ (F k) w2.heap.size rfl rfl (cell_new w2 #[.int .i64 (F k)] 3 0 _ rfl) ((HO.out.keep ((Below.refl _ _).drew.after hb2 (Nat.le_refl _))).alloc (.cells #[.int .i64 (F k)] 3)) hFk (by omega) (by simp; omega) ?_; intro v' w6 hown hgr; obtain ⟨av, nv, cv, rfl⟩ := hown.shape3; have X6 := X3.grow hgr (fun e => by have := (hrow _ e).1; omega); obtain ⟨i0, i1, j0, j1⟩ := X6))
      all_goals
       have B6 : Below w.heap.size w w6 := (((B.drew).after hb2 B.size).alloc (B.drew.after hb2 B.size).size (.cells #[.int .i64 (F k)] 3)).grown hgr (by simp; omega) (fun q hq => by have := (hrow q hq).1; omega)
       have R6 := ((HR.out.keep ((Below.refl _ _).drew.after hb2 (Nat.le_refl _))).keep (bl1 w2 (.cells #[.int .i64 (F k)] 3))).grow hgr (fun e => by have := (hrow _ e).1; omega)
       go_wp2
       go_roundw
       case rel => exact ⟨k + 1, av, nv, cv, by omega, by go_num, by rw [madeL_succ]; exact hown.setBelow (by first | omega | (simp; done) | (simp; omega)) _, B6.setCell (by first | omega | (simp; done) | (simp; omega)) _, R6.other (by omega) _, (BoxAt.mk i0 i1 j0 j1).set1 _⟩
       case measure => simp [intOf]; omega
    · have hlt2 : ¬ (k : Int) < 2 ^ n := by rw [← hpi]; exact_mod_cast hlt
      have hkN : k = N := by omega
      subst hkN
      have HO := Lib.hid ho
      have HR := Lib.hid R
      have HXX := Lib.hid X
      obtain ⟨e0, e1, g0, g1⟩ := X
      have hi := ho.ints
      clear ho hw R
      go_wp2_with fail
      refine (isFunI_any n _ _ _ hi).mono ?_
      rintro e w2 ⟨rfl, hb2⟩
      have B2 := B.after hb2 B.size
      have o2 := HO.out.keep hb2
      have HO2 := Lib.hid o2
      obtain ⟨f0, f1, j0, j1⟩ := HR.out.keep hb2
      obtain ⟨i0, i1, q0, q1⟩ := HXX.out.keep hb2
      clear e0 e1 g0 g1 hb2 B o2 hi
      cases hf : isFunB n (madeL F k) with
      | false =>
        have HF := Lib.hid hf
        go_wp2
        all_goals refine bodyPost_ret (v := .tuple #[.agg #[.int .i64 0, .slice none 0 0], .bool false]) (by simp [results, Tryz.results273, go_sem, f0, f1]) rfl ⟨none, 0, 0, rfl, OwnI.nil _ _ _, Below.setCell (Below.setCell B2 (Nat.le_refl _) _) (Nat.le_refl _) _⟩
      | true =>
        have HF := Lib.hid hf
        go_wp2
        refine bodyPost_ret (v := .tuple #[.agg #[.int .i64 n, .slice ad nn cp], .bool true]) (by simp [results, Tryz.results273, go_sem, f0, f1]) rfl ⟨ad, nn, cp, rfl, ?_, ?_⟩
        · exact ((HO2.out.setBelow (by first | omega | (simp; done) | (simp; omega)) _).setBelow (by first | omega | (simp; done) | (simp; omega)) _).mono (by first | omega | (simp; done) | (simp; omega))
        · exact Below.setCell (Below.setCell B2 (Nat.le_refl _) _) (Nat.le_refl _) _
end Go.Proofs.YtipejodijbjpcaaGreatDoor
end
section
namespace Go.Proofs.YtipejodijbjpcaaGreatDoor
open Go.RowKit Go.G5

def oppF (l : List Int) (s : Nat) : Int := l.getD (l.length - 1 - s) 0
def oppL (l : List Int) : List Int := madeL (oppF l) l.length
def opN (n : Int) (l : List Int) : Int := if isFunB n l then n else 0
def opL (n : Int) (l : List Int) : List Int := if isFunB n l then oppL l else []
def symB (n : Int) (l : List Int) : Bool := isFunB n l && decide (l = oppL l)
def fitB (n : Int) (l : List Int) : Bool := (subB n l && symB n l) && decide (2 ≤ n)
/-- the first least set from 1 on below k -/
def bestTo (l : List Int) : Nat → Nat
  | 0 => 1
  | k + 1 => if k < 2 then 1 else if l.getD k 0 < l.getD (bestTo l k) 0 then k else bestTo l k
def cutS (n : Int) (l : List Int) : Int := if fitB n l then (bestTo l (l.length - 1) : Int) else 0
def cutN (n : Int) (l : List Int) : Int := if fitB n l then l.getD (bestTo l (l.length - 1)) 0 else 0
theorem bestTo_two (l : List Int) : bestTo l 2 = 1 := rfl
theorem bestTo_succ (l : List Int) (k : Nat) (h : 2 ≤ k) : bestTo l (k + 1) = if l.getD k 0 < l.getD (bestTo l k) 0 then k else bestTo l k := by rw [bestTo, if_neg (by omega)]
theorem bestTo_lt (l : List Int) : ∀ k, 2 ≤ k → 1 ≤ bestTo l k ∧ bestTo l k < k := by
  intro k
  induction k with
  | zero => intro h; omega
  | succ k ih =>
    intro h
    by_cases hk : 2 ≤ k
    · have := ih hk
      rw [bestTo_succ l k hk]
      split <;> omega
    · have : k = 1 := by omega
      subst this
      rw [bestTo_two]; omega
theorem oppL_len (l : List Int) : (oppL l).length = l.length := by unfold oppL madeL; simp
theorem opL_len (n : Int) (l : List Int) (h : l.length ≤ 1048576) : (opL n l).length ≤ 1048576 := by
  unfold opL
  split
  · rw [oppL_len]; exact h
  · simp
theorem oppF_at (l : List Int) (s : Nat) (h : s < l.length) : oppF l s = l[l.length - 1 - s] := by unfold oppF; exact getD_at l _ (by omega)
theorem opp_fun (n : Int) (l : List Int) (h : isFunB n l = true) : isFunB n (oppL l) = true := by
  obtain ⟨h0, h5, hlen, hlb⟩ := funOk h
  unfold isFunB allIn
  rw [oppL_len, inB_true.2 ⟨h0, h5⟩, decide_eq_true hlen]
  simp only [Bool.true_and, List.all_eq_true]
  intro x hx
  unfold oppL madeL at hx
  obtain ⟨s, hs, rfl⟩ := List.mem_map.1 hx
  rw [List.mem_range] at hs
  rw [oppF_at l s hs]
  exact inB_true.2 (hlb _ (by omega))
theorem ndiff_full : ∀ n : Nat, n ≤ 5 → ∀ s : Nat, s < 2 ^ n → ndiff (2 ^ n - 1) s = 2 ^ n - 1 - s := by decide +kernel
end Go.Proofs.YtipejodijbjpcaaGreatDoor
end
section
namespace Go.Proofs.YtipejodijbjpcaaGreatDoor
open Go.RowKit Go.G5

theorem l8Vector_any (x : List Int) (v : Value) (w : World) (hv : Ints w v x) :
    Calls Tryz.prog 299 #[v] w fun e w' => e = .returned (.bool (allIn x (-5000) 5000 && decide (x.length ≤ 5))) ∧ w = w' := by
  obtain ⟨a, b, off, c, rfl, hlen, hix, hc, hb⟩ := hv.view Tryz.prog 22 3 Tryz.underlying22 intElem
  go_enter Tryz.func299, Tryz.ntmps299
  go_wp2
  go_loop [3] (fun i => ∃ k : Nat, k ≤ x.length ∧ i = .int .i64 k ∧ (x.take k).all (fun x => inB x (-5000) 5000) = true) (fun i => x.length - (intOf i).toNat)
  case atStart => exact ⟨0, Nat.zero_le _, rfl, by simp⟩
  case round =>
    obtain ⟨k, hk, rfl, hall⟩ := hrel
    have H := Lib.hid hall
    clear hall
    by_cases hlt : k < x.length
    · cases hs : inB x[k] (-5000) 5000 with
      | true =>
        go_wp2_with (go_at_call 188; refine (l1In_any _ _ _ _).mono ?_; rintro e w' ⟨rfl, rfl⟩)
        go_round
        case rel => exact ⟨k + 1, by omega, by go_num, by rw [all_take_succ _ _ _ hlt, H.out, hs]; rfl⟩
        case measure => simp [intOf]; omega
      | false =>
        go_wp2_with (go_at_call 188; refine (l1In_any _ _ _ _).mono ?_; rintro e w' ⟨rfl, rfl⟩)
        go_ret
        exact ⟨ret_bool (by unfold allIn; rw [all_false_at _ _ _ hlt hs]; rfl), rfl⟩
    · have hx : allIn x (-5000) 5000 = true := by unfold allIn; rw [← all_of_take (fun x => inB x (-5000) 5000) x k (by omega), H.out]
      have HX := Lib.hid hx
      clear hx
      by_cases h5 : x.length ≤ 5
      · go_wp2
        go_ret
        exact ⟨ret_bool (by rw [HX.out]; simp; omega), rfl⟩
      · have h5' : decide ((x.length : Int) ≤ 5) = false := decide_eq_false (by omega)
        go_wp2
        go_ret
        exact ⟨ret_bool (by first | rfl | (rw [HX.out]; simp; omega)), rfl⟩

def isLongB (n : Int) (x : List Int) : Bool := decide ((x.length : Int) = n) && allIn x (-5000) 5000

theorem isLong_any (n : Int) (l : List Int) (v : Value) (x : List Int) (u : Value) (w : World) (hv : Ints w v l) (hu : Ints w u x) :
    Calls Tryz.prog 245 #[.agg #[.int .i64 n, v], u] w fun e w' => e = .returned (.bool (isLongB n x)) ∧ Below w.heap.size w w' := by
  obtain ⟨av, cv, rfl⟩ := hv.shape
  obtain ⟨au, cu, rfl⟩ := hu.shape
  by_cases hl : (x.length : Int) = n
  · have hx : isLongB n x = allIn x (-5000) 5000 := by unfold isLongB; rw [decide_eq_true hl]; rfl
    have ht : ((x.length : Int) == n) = true := by simp [hl]
    have HX := Lib.hid hx
    clear hx hl
    go_enter Tryz.func245, Tryz.ntmps245
    go_wp2_with (go_at_call 131; refine (areWithin_any x _ _ _ _ (hu.alloc _)).mono ?_; rintro e w' ⟨rfl, rfl⟩)
    go_ret
    exact ⟨by rw [HX.out]; rfl, bl1 _ _⟩
  · have hx : isLongB n x = false := by unfold isLongB; rw [decide_eq_false hl]; rfl
    have ht : ((x.length : Int) == n) = false := by simp [hl]
    have HX := Lib.hid hx
    clear hx hl
    go_enter Tryz.func245, Tryz.ntmps245
    go_wp2
    go_ret
    exact ⟨by rw [HX.out]; rfl, bl1 _ _⟩

theorem allOf_any (n : Int) (v : Value) (l : List Int) (w : World) (hv : Ints w v l) (h0 : 0 ≤ n) (h1 : n ≤ 40) :
    Calls Tryz.prog 127 #[.agg #[.int .i64 n, v]] w fun e w' => e = .returned (.int .i64 (2 ^ n.toNat - 1)) ∧ Below w.heap.size w w' := by
  obtain ⟨av, cv, rfl⟩ := hv.shape
  have h2 := two_pow n.toNat 40 (by omega)
  have h3 := h2.1
  have h4 := h2.2
  simp at h3
  clear h2
  go_enter Tryz.func127, Tryz.ntmps127
  go_wp2
  go_ret
  exact ⟨rfl, bl1 _ _⟩

/-- what a set's value has over its weight -/
def slackOf (l x : List Int) (s : Int) : Int := l.getD s.toNat 0 - wt x s

set_option maxHeartbeats 400000 in
theorem slack_any (n : Int) (l : List Int) (v : Value) (x : List Int) (u : Value) (s : Int) (w : World) (hv : Ints w v l) (hu : Ints w u x) (h0 : 0 ≤ s) (hs : s < l.length) (hll : l.length ≤ 64)
    (hlb : ∀ k, (hk : k < l.length) → -1000 ≤ l[k] ∧ l[k] ≤ 1000) (hx : ∀ k, (hk : k < x.length) → -5000 ≤ x[k] ∧ x[k] ≤ 5000) (hxl : x.length ≤ 6) :
    Calls Tryz.prog 126 #[.agg #[.int .i64 n, v], u, .int .i64 s] w fun e w' => e = .returned (.int .i64 (slackOf l x s)) ∧ Below w.heap.size w w' := by
  obtain ⟨a, b, off, c, rfl, hlen, hix, hc, hb⟩ := hv.view Tryz.prog 22 3 Tryz.underlying22 intElem
  obtain ⟨au, cu, rfl⟩ := hu.shape
  obtain ⟨k, rfl⟩ := Int.eq_ofNat_of_zero_le h0
  have hk : k < l.length := by omega
  have hck := cells_below hc hb (bl1 w (.cells #[.int .i64 n, .slice a l.length c] 32)) (Nat.le_refl _) k hk
  have hxk := hlb k hk
  have hw := wtTo_bd x k (fun j hj => by have := hx j hj; omega) x.length (Nat.le_refl _)
  have hw' : -6000000 ≤ wt x k ∧ wt x k ≤ 6000000 := by unfold wt; omega
  have hg : l.getD (k : Int).toNat 0 = l[k] := by simp [hk]
  have HG := Lib.hid hg
  clear hc hlb hw hg
  go_enter Tryz.func126, Tryz.ntmps126
  go_wp2
  go_quiet ((go_at_call 132; first | exact q_same2 (weightOf_any x _ _ _ ((hu.alloc _).drewN _) (by omega) (by omega) (fun j hj => by have := hx j hj; omega) (by omega)) | exact q_same (weightOf_any x _ _ _ ((hu.alloc _).drewN _) (by omega) (by omega) (fun j hj => by have := hx j hj; omega) (by omega))))
  go_wp2
  go_ret
  exact ⟨ret_int (by unfold slackOf; rw [HG.out]), (bl1 _ _).drewN' _⟩
/-! the core -/
def coreOkTo (l x : List Int) : Nat → Bool
  | 0 => true
  | k + 1 => coreOkTo l x k && decide (slackOf l x k ≤ 0)
def inCoreB (n : Int) (l x : List Int) : Bool :=
  isGrB n l && isLongB n x && coreOkTo l x l.length && (slackOf l x (2 ^ n.toNat - 1) == 0)
theorem coreOk_false (l x : List Int) (k : Nat) (h : 0 < slackOf l x k) : ∀ m, k < m → coreOkTo l x m = false := by
  intro m
  induction m with
  | zero => intro h; omega
  | succ m ih =>
    intro hm
    rw [coreOkTo]
    by_cases hkm : k < m
    · rw [ih hkm]; rfl
    · have : m = k := by omega
      subst this
      rw [decide_eq_false (by omega)]; simp

theorem longOk {n : Int} {x : List Int} (h : isLongB n x = true) : (x.length : Int) = n ∧ ∀ k, (hk : k < x.length) → -5000 ≤ x[k] ∧ x[k] ≤ 5000 := by
  unfold isLongB allIn at h
  simp only [Bool.and_eq_true, List.all_eq_true, decide_eq_true_eq] at h
  exact ⟨h.1, fun k hk => inB_true.1 (h.2 _ (List.getElem_mem hk))⟩
theorem grOk {n : Int} {l : List Int} (h : isGrB n l = true) : isFunB n l = true := by
  unfold isGrB at h
  simp only [Bool.and_eq_true] at h
  exact h.1
theorem wt_bd (x : List Int) (s : Int) (hx : ∀ k, (hk : k < x.length) → -5000 ≤ x[k] ∧ x[k] ≤ 5000) (hl : x.length ≤ 6) : -6000000 ≤ wt x s ∧ wt x s ≤ 6000000 := by
  have := wtTo_bd x s (fun k hk => by have := hx k hk; omega) x.length (Nat.le_refl _)
  unfold wt; omega

end Go.Proofs.YtipejodijbjpcaaGreatDoor
end
