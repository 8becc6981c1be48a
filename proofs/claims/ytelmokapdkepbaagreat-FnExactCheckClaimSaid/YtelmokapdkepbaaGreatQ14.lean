/- Functions made by a closure over two boxes. Functions of masses: the program's own. Masses of functions. Functions of masses: the reference's. -/
import Derived.Test.YtelmokapdkepbaaGreatQ13
import Derived.Shelf.Abstract
import Derived.StillTailTactics
section
namespace Go.Proofs.YtelmokapdkepbaaGreat
open Go.RowKit Go.G5

set_option maxHeartbeats 2000000 in
set_option maxRecDepth 100000 in
theorem makeFunction2_any (w : World) (n : Nat) (hn : n ≤ 5) (c : FuncId) (he : ∀ args w, (callFunc c args).run Tryz.prog w = .ok (.enter c args) w) (g g' : Nat) (F : Nat → Int) (hF : ∀ s, s < 2 ^ n → InR (F s))
    (hw : ∀ (s : Nat) W', s < 2 ^ n → Below w.heap.size w W' → Calls Tryz.prog c #[.int .i64 (s : Int), .pointer (some ⟨g, 0, none⟩), .pointer (some ⟨g', 0, none⟩)] W' fun e w2 => e = .returned (.int .i64 (F s)) ∧ Below W'.heap.size W' w2) :
    Calls Tryz.prog 120 #[.int .i64 (n : Int), .func (.func c) #[] #[.pointer (some ⟨g, 0, none⟩), .pointer (some ⟨g', 0, none⟩)]] w fun e w' =>
      ∃ ad i cp, e = .returned (.tuple #[.agg #[.int .i64 (if isFunB n (madeL F (2 ^ n)) then (n : Int) else 0), .slice ad i cp], .bool (isFunB n (madeL F (2 ^ n)))]) ∧ OwnI 3 w.heap.size w' (.slice ad i cp) (if isFunB n (madeL F (2 ^ n)) then madeL F (2 ^ n) else []) ∧ Below w.heap.size w w' := by
  have hpn : (2 : Nat) ^ n ≤ 32 := Nat.pow_le_pow_right (by decide) hn
  have hp1 := Nat.two_pow_pos n
  have hpi : ((2 ^ n : Nat) : Int) = (2 : Int) ^ n := by simp
  obtain ⟨N, hN⟩ : ∃ N : Nat, N = 2 ^ n := ⟨_, rfl⟩
  rw [← hN] at hw hF hpn hp1 hpi ⊢
  clear hN
  have r0 := (BoxAt.new w (.int .i64 0) (.slice none 0 0) 31)
  have r1 := r0.keep (bl1 _ (.cells #[.int .i64 n, .slice none 0 0] 31))
  have b1 := BoxAt.new (w.alloc (.cells #[.int .i64 0, .slice none 0 0] 31)) (.int .i64 n) (.slice none 0 0) 31
  go_enter Tryz.func120, Tryz.ntmps120
  go_wp2_with fail
  go_loopw [13] (fun i wr => ∃ (k : Nat) (ad : Option Addr) (nn cp : Nat), k ≤ N ∧ i = .int .i64 k ∧ OwnI 3 (w.heap.size + 1 + 1) wr (.slice ad nn cp) (madeL F k) ∧ Below w.heap.size w wr ∧
      BoxAt wr w.heap.size (.int .i64 0) (.slice none 0 0) ∧ BoxAt wr (w.heap.size + 1) (.int .i64 n) (.slice ad nn cp))
    (fun i _ => N - (intOf i).toNat)
  case atStart => exact ⟨0, none, 0, 0, Nat.zero_le _, rfl, OwnI.nil _ _ _, (by repeat (first | exact Below.refl _ _ | (with_reducible refine Below.setCell ?_ (by first | omega | (simp; done) | (simp; omega)) _) | (with_reducible refine Below.alloc ?_ (by first | omega | (simp; done) | (simp; omega)) _) | (with_reducible refine Below.drewN' ?_ _) | (with_reducible refine Below.drew ?_) | (with_reducible assumption) | refine Below.trans ?_ (Below.mono (by assumption) (by first | omega | (simp; done) | (simp; omega))))), r1, by simpa using b1⟩
  case round =>
    obtain ⟨k, ad, nn, cp, hk, rfl, ho, B, R, X⟩ := hrel
    clear r0 r1 b1
    by_cases hlt : k < N
    · have hlt2 : (k : Int) < 2 ^ n := by rw [← hpi]; exact_mod_cast hlt
      have zr := R.lt
      have zx := X.lt
      have hFk := hF k hlt
      have hlen : (madeL F k).length = k := by simp [madeL]
      have hlk : (madeL F k).length ≤ 64 := by omega
      have hrow := ho.lt
      have HO := Lib.hid ho
      have HR := Lib.hid R
      have HXX := Lib.hid X
      obtain ⟨e0, e1, g0, g1⟩ := X
      clear ho R
      have hcl := hw k wr.drew hlt B.drew
      clear hw
      go_wp2
      go_region_law
        (first
          | (go_simp; go_at_fn c; refine hcl.mono ?_; rintro e w2 ⟨rfl, hb2⟩; have X2 := HXX.out.keep ((Below.refl _ _).drew.after hb2 (Nat.le_refl _)); have X3 := X2.keep (bl1 w2 (.cells #[.int .i64 (F k)] 3)); have zz2 := X2.lt; have x1 := X2.d1; have x2 := X2.f1; have x3 := X3.d1; have x4 := X3.f1)
          | (refine step_appendI rfl _ _ _ rfl 3 Tryz.underlying22 intElem (w.heap.size + 1 + 1) _ _ (F k) w2.heap.size rfl rfl (cell_new w2 #[.int .i64 (F k)] 3 0 _ rfl) ((HO.out.keep ((Below.refl _ _).drew.after hb2 (Nat.le_refl _))).alloc (.cells #[.int .i64 (F k)] 3)) hFk (by omega) (by simp; omega) ?_; intro v' w6 hown hgr; obtain ⟨av, nv, cv, rfl⟩ := hown.shape3; have X6 := X3.grow hgr (fun e => by have := (hrow _ e).1; omega); obtain ⟨i0, i1, j0, j1⟩ := X6))
      all_goals
       have B6 : Below w.heap.size w w6 := (((B.drew).after hb2 B.size).alloc (B.drew.after hb2 B.size).size (.cells #[.int .i64 (F k)] 3)).grown hgr (by simp; omega) (fun q hq => by have := (hrow q hq).1; omega)
       have R6 := ((HR.out.keep ((Below.refl _ _).drew.after hb2 (Nat.le_refl _))).keep (bl1 w2 (.cells #[.int .i64 (F k)] 3))).grow hgr (fun e => by have := (hrow _ e).1; omega)
       go_wp2
       go_roundw
       case rel => exact ⟨k + 1, av, nv, cv, by omega, by go_num, by rw [madeL_succ]; exact hown.setBelow (by first | omega | (simp; done) | (simp; omega)) _, B6.setCell (by first | omega | (simp; done) | (simp; omega)) _, R6.other (by omega) _, (BoxAt.mk i0 i1 j0 j1).set1 _⟩
       case measure => simp [intOf]; omega
    · have hlt2 : ¬ (k : Int) < 2 ^ n := by rw [← hpi]; exact_mod_cast hlt
      have hkN : k = N := by omega
      subst hkN
      have HO := Lib.hid ho
      have HR := Lib.hid R
      have HXX := Lib.hid X
      obtain ⟨e0, e1, g0, g1⟩ := X
      have hi := ho.ints
      clear ho hw R
      go_wp2_with fail
      refine (isFunI_any n _ _ _ hi).mono ?_
      rintro e w2 ⟨rfl, hb2⟩
      have B2 := B.after hb2 B.size
      have o2 := HO.out.keep hb2
      have HO2 := Lib.hid o2
      obtain ⟨f0, f1, j0, j1⟩ := HR.out.keep hb2
      obtain ⟨i0, i1, q0, q1⟩ := HXX.out.keep hb2
      clear e0 e1 g0 g1 hb2 B o2 hi
      cases hf : isFunB n (madeL F k) with
      | false =>
        have HF := Lib.hid hf
        go_wp2
        all_goals refine bodyPost_ret (v := .tuple #[.agg #[.int .i64 0, .slice none 0 0], .bool false]) (by simp [results, Tryz.results120, go_sem, f0, f1]) rfl ⟨none, 0, 0, rfl, OwnI.nil _ _ _, Below.setCell (Below.setCell B2 (Nat.le_refl _) _) (Nat.le_refl _) _⟩
      | true =>
        have HF := Lib.hid hf
        go_wp2
        refine bodyPost_ret (v := .tuple #[.agg #[.int .i64 n, .slice ad nn cp], .bool true]) (by simp [results, Tryz.results120, go_sem, f0, f1]) rfl ⟨ad, nn, cp, rfl, ?_, ?_⟩
        · exact ((HO2.out.setBelow (by first | omega | (simp; done) | (simp; omega)) _).setBelow (by first | omega | (simp; done) | (simp; omega)) _).mono (by first | omega | (simp; done) | (simp; omega))
        · exact Below.setCell (Below.setCell B2 (Nat.le_refl _) _) (Nat.le_refl _) _
end Go.Proofs.YtelmokapdkepbaaGreat
end
section
namespace Go.Proofs.YtelmokapdkepbaaGreat
open Go.RowKit Go.G5

def fomF (m : List Int) (s : Nat) : Int := sumTo m s (s + 1)
def fomOk (n : Int) (m : List Int) : Bool := inB n 0 5 && (m.length == 2 ^ n.toNat) && allIn m (-100000) 100000
def fomV (n : Int) (m : List Int) : List Int := madeL (fomF m) (2 ^ n.toNat)
def fomB (n : Int) (m : List Int) : Bool := fomOk n m && isFunB n (fomV n m)
def fomN (n : Int) (m : List Int) : Int := if fomB n m then n else 0
def fomL (n : Int) (m : List Int) : List Int := if fomB n m then fomV n m else []

theorem fomL_len (n : Int) (m : List Int) : (fomL n m).length ≤ 1048576 := by
  unfold fomL
  split
  · rename_i h
    have h1 : inB n 0 5 = true := by
      unfold fomB fomOk at h
      simp only [Bool.and_eq_true] at h
      exact h.1.1.1
    have h2 := inB_true.1 h1
    have h3 : (2 : Nat) ^ n.toNat ≤ 2 ^ 5 := Nat.pow_le_pow_right (by decide) (by omega)
    unfold fomV madeL
    simp; omega
  · simp

end Go.Proofs.YtelmokapdkepbaaGreat
end
section
namespace Go.Proofs.YtelmokapdkepbaaGreat
open Go.RowKit Go.G5

/-- the sum of the signed values of the parts of s below k -/
def massTo (l : List Int) (s : Nat) : Nat → Int
  | 0 => 0
  | k + 1 => if ndiff k s = 0 then (if pop (ndiff s k) % 2 = 1 then massTo l s k - l.getD k 0 else massTo l s k + l.getD k 0) else massTo l s k
def masses (l : List Int) : List Int := (List.range l.length).map fun s => massTo l s (s + 1)
def massesOf (n : Int) (l : List Int) : List Int := if isFunB n l then masses l else []
theorem massTo_bd (l : List Int) (s : Nat) (h : ∀ k, (hk : k < l.length) → -1000 ≤ l[k] ∧ l[k] ≤ 1000) (k : Nat) (hk : k ≤ l.length) : -1000 * (k : Int) ≤ massTo l s k ∧ massTo l s k ≤ 1000 * (k : Int) := by
  induction k with
  | zero => simp [massTo]
  | succ k ih =>
    have h1 := ih (by omega)
    have h2 := h k (by omega)
    rw [massTo, List.getD_eq_getElem?_getD, List.getElem?_eq_getElem (show k < l.length by omega), Option.getD_some]
    split
    · split <;> omega
    · omega
theorem masses_len (l : List Int) : (masses l).length = l.length := by simp [masses]
theorem masses_get (l : List Int) (s : Nat) (h : s < (masses l).length) : (masses l)[s] = massTo l s (s + 1) := by simp [masses]
theorem set_zero (l : List Int) (s n : Nat) (h : s < n) (hl : s ≤ l.length) : (l.take s ++ List.replicate (n - s) (0 : Int)).set s 0 = l.take s ++ List.replicate (n - s) 0 := by
  rw [show n - s = (n - s - 1) + 1 by omega, List.replicate_succ]
  have e : (l.take s).length = s := by simp; omega
  rw [List.set_append_right _ _ (by omega), e]
  simp
theorem mass_fill (l : List Int) (s : Nat) (h : s < l.length) : ((masses l).take s ++ List.replicate (l.length - s) (0 : Int)).set s (massTo l s (s + 1)) = (masses l).take (s + 1) ++ List.replicate (l.length - (s + 1)) 0 := by
  have := fill_step (masses l) s (by rw [masses_len]; exact h)
  simp only [masses_get, masses_len] at this
  exact this

theorem massesOf_len (n : Int) (l : List Int) (h : l.length ≤ 1048576) : (massesOf n l).length ≤ 1048576 := by
  unfold massesOf; split
  · rw [masses_len]; exact h
  · simp

theorem ndiff_zero (a b : Nat) : ndiff a b = 0 ↔ a &&& b = a := by
  have := @Nat.and_le_left a b
  unfold ndiff; omega
theorem ndiff_sub (a b : Nat) (h : b &&& a = b) : ndiff a b = a - b := by unfold ndiff; rw [Nat.and_comm, h]
theorem masses_take (l : List Int) (s : Nat) (h : s < l.length) : (masses l).take (s + 1) = (masses l).take s ++ [massTo l s (s + 1)] := by
  rw [List.take_succ_eq_append_getElem (by rw [masses_len]; exact h), masses_get]

/-! only positive masses -/
def onlyPosB (n : Int) (l : List Int) : Bool := isFunB n l && allIn ((masses l).drop 1) 0 1099511627776

theorem allIn_drop_false (m : List Int) (k : Nat) (h1 : 1 ≤ k) (h : k < m.length) (hneg : m[k] < 0) (hi : Int) : allIn (m.drop 1) 0 hi = false := by
  unfold allIn
  refine all_false_at _ _ (k - 1) (by simp; omega) ?_
  simp only [List.getElem_drop]
  have e : 1 + (k - 1) = k := by omega
  simp only [e]
  exact inB_false.2 (.inl hneg)
theorem allIn_drop_true (m : List Int) (h : ∀ k, (hk : k < m.length) → 1 ≤ k → 0 ≤ m[k] ∧ m[k] ≤ 1099511627776) : allIn (m.drop 1) 0 1099511627776 = true := by
  unfold allIn
  rw [List.all_eq_true]
  intro x hx
  obtain ⟨j, hj, rfl⟩ := List.getElem_of_mem hx
  simp only [List.getElem_drop]
  simp at hj
  exact inB_true.2 (h (1 + j) (by omega) (by omega))

end Go.Proofs.YtelmokapdkepbaaGreat
end
section
namespace Go.Proofs.YtelmokapdkepbaaGreat
open Go.RowKit Go.G5

theorem sumTo_bd2 (m : List Int) (s k : Nat) (hk : k ≤ m.length) (h : ∀ j, (hj : j < m.length) → j < k → -100000 ≤ m[j] ∧ m[j] ≤ 100000) : -100000 * (k : Int) ≤ sumTo m s k ∧ sumTo m s k ≤ 100000 * (k : Int) := by
  induction k with
  | zero => simp [sumTo]
  | succ k ih =>
    have h1 := ih (by omega) (fun j hj hjk => h j hj (by omega))
    have h2 := h k (by omega) (by omega)
    rw [sumTo, List.getD_eq_getElem?_getD, List.getElem?_eq_getElem (show k < m.length by omega), Option.getD_some]
    split <;> omega

theorem l2Made_yes (w : World) (n : Int) (ad : Option Addr) (i cp : Nat) (l : List Int) (hv : Ints w (.slice ad i cp) l) (hf : isFunB n l = true) :
    Calls Tryz.prog 103 #[.int .i64 n, .slice ad i cp] w fun e w' => e = .returned (.tuple #[.agg #[.int .i64 n, .slice ad i cp], .bool true]) ∧ Below w.heap.size w w' := by
  go_enter Tryz.func103, Tryz.ntmps103
  go_wp2_with fail
  refine (isFunS_any n l _ _ (hv.below (by repeat (first | exact Below.refl _ _ | (with_reducible refine Below.setCell ?_ (by first | omega | (simp; done) | (simp; omega)) _) | (with_reducible refine Below.alloc ?_ (by first | omega | (simp; done) | (simp; omega)) _) | (with_reducible refine Below.drewN' ?_ _) | (with_reducible refine Below.drew ?_) | (with_reducible assumption) | refine Below.trans ?_ (Below.mono (by assumption) (by first | omega | (simp; done) | (simp; omega))))) (Nat.le_refl _))).mono ?_
  rintro e w1 ⟨rfl, hb⟩
  rw [hf]
  obtain ⟨hc, hff⟩ := bcellN hb (w.heap.size + 1 + 1) (by first | omega | (simp; done) | (simp; omega))
  have z := hb.size
  simp at z
  go_wp2
  exact bodyPost_ret (v := .tuple #[.agg #[.int .i64 n, .slice ad i cp], .bool true]) (by simp [results, Tryz.results103, go_sem, hc]) rfl ⟨rfl, (by repeat (first | exact Below.refl _ _ | (with_reducible refine Below.setCell ?_ (by first | omega | (simp; done) | (simp; omega)) _) | (with_reducible refine Below.alloc ?_ (by first | omega | (simp; done) | (simp; omega)) _) | (with_reducible refine Below.drewN' ?_ _) | (with_reducible refine Below.drew ?_) | (with_reducible assumption) | refine Below.trans ?_ (Below.mono (by assumption) (by first | omega | (simp; done) | (simp; omega)))))⟩
theorem l2Made_no (w : World) (n : Int) (ad : Option Addr) (i cp : Nat) (l : List Int) (hv : Ints w (.slice ad i cp) l) (hf : isFunB n l = false) :
    Calls Tryz.prog 103 #[.int .i64 n, .slice ad i cp] w fun e w' => e = .returned (.tuple #[.agg #[.int .i64 0, .slice none 0 0], .bool false]) ∧ Below w.heap.size w w' := by
  go_enter Tryz.func103, Tryz.ntmps103
  go_wp2_with fail
  refine (isFunS_any n l _ _ (hv.below (by repeat (first | exact Below.refl _ _ | (with_reducible refine Below.setCell ?_ (by first | omega | (simp; done) | (simp; omega)) _) | (with_reducible refine Below.alloc ?_ (by first | omega | (simp; done) | (simp; omega)) _) | (with_reducible refine Below.drewN' ?_ _) | (with_reducible refine Below.drew ?_) | (with_reducible assumption) | refine Below.trans ?_ (Below.mono (by assumption) (by first | omega | (simp; done) | (simp; omega))))) (Nat.le_refl _))).mono ?_
  rintro e w1 ⟨rfl, hb⟩
  rw [hf]
  obtain ⟨hc, hff⟩ := bcellN hb (w.heap.size + 1 + 1) (by first | omega | (simp; done) | (simp; omega))
  have z := hb.size
  simp at z
  go_wp2
  exact bodyPost_ret (v := .tuple #[.agg #[.int .i64 0, .slice none 0 0], .bool false]) (by simp [results, Tryz.results103, go_sem, hc]) rfl ⟨rfl, (by repeat (first | exact Below.refl _ _ | (with_reducible refine Below.setCell ?_ (by first | omega | (simp; done) | (simp; omega)) _) | (with_reducible refine Below.alloc ?_ (by first | omega | (simp; done) | (simp; omega)) _) | (with_reducible refine Below.drewN' ?_ _) | (with_reducible refine Below.drew ?_) | (with_reducible assumption) | refine Below.trans ?_ (Below.mono (by assumption) (by first | omega | (simp; done) | (simp; omega)))))⟩

theorem l2Made_any (w : World) (n : Int) (ad : Option Addr) (i cp : Nat) (l : List Int) (hv : Ints w (.slice ad i cp) l) (hf : Bool) (h : isFunB n l = hf) :
    Calls Tryz.prog 103 #[.int .i64 n, .slice ad i cp] w fun e w' => ∃ ad' i' cp', e = .returned (.tuple #[.agg #[.int .i64 (if hf then n else 0), .slice ad' i' cp'], .bool hf]) ∧ (.slice ad' i' cp' : Value) = (if hf then .slice ad i cp else .slice none 0 0) ∧ Below w.heap.size w w' := by
  cases hf
  · exact (l2Made_no w n ad i cp l hv h).mono fun e w' ⟨h1, h2⟩ => ⟨_, _, _, h1, rfl, h2⟩
  · exact (l2Made_yes w n ad i cp l hv h).mono fun e w' ⟨h1, h2⟩ => ⟨_, _, _, h1, rfl, h2⟩

end Go.Proofs.YtelmokapdkepbaaGreat
end
