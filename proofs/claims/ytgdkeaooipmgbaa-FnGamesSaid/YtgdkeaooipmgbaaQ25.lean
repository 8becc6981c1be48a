/- Powers of elements, in plain words. Minimum cuts: the second program. Functions made by a closure over two boxes. -/
import Derived.Test.YtgdkeaooipmgbaaQ24
section
namespace Go.Proofs.Ytgdkeaooipmgbaa
open Go.RowKit Go.G5

/-! by orders -/
def tot (l : List Int) (os : List (List Int)) (e : Nat) : Nat → Int
  | 0 => 0
  | j + 1 => tot l os e j + (cornerL l (os.getD j [])).getD e 0
def rowT (l : List Int) (os : List (List Int)) (n j : Nat) : List Int := (List.range n).map fun e => tot l os e j
theorem rowT_len (l : List Int) (os : List (List Int)) (n j : Nat) : (rowT l os n j).length = n := by simp [rowT]
theorem rowT_get (l : List Int) (os : List (List Int)) (n j e : Nat) (h : e < (rowT l os n j).length) : (rowT l os n j)[e] = tot l os e j := by simp [rowT]
theorem rowT_zero (l : List Int) (os : List (List Int)) (n : Nat) : rowT l os n 0 = List.replicate n 0 := by
  apply List.ext_getElem
  · simp [rowT]
  · intro i h1 h2
    simp [rowT, tot]
theorem mix_step (A B : List Int) (e : Nat) (hA : e < A.length) (hB : A.length = B.length) : (A.take e ++ B.drop e).set e A[e] = A.take (e + 1) ++ B.drop (e + 1) := by
  apply List.ext_getElem
  · simp; omega
  · intro i h1 h2
    simp only [List.length_set, List.length_append, List.length_take, List.length_drop] at h1 h2
    rw [List.getElem_set]
    by_cases hi : e = i
    · subst hi
      rw [if_pos rfl, List.getElem_append_left (by simp; omega)]; simp
    · rw [if_neg hi]
      by_cases hie : i < e
      · rw [List.getElem_append_left (by simp; omega), List.getElem_append_left (by simp; omega)]; simp
      · rw [List.getElem_append_right (by simp; omega), List.getElem_append_right (by simp; omega)]
        simp only [List.length_take, List.getElem_drop]
        congr 1; omega
theorem mix_len (A B : List Int) (e : Nat) (hA : e ≤ A.length) (hB : A.length = B.length) : (A.take e ++ B.drop e).length = A.length := by simp; omega
theorem mix_get (A B : List Int) (e : Nat) (hA : e < A.length) (hB : A.length = B.length) (h : e < (A.take e ++ B.drop e).length) : (A.take e ++ B.drop e)[e] = B[e] := by
  rw [List.getElem_append_right (by simp; omega)]
  simp only [List.length_take, List.getElem_drop]
  congr 1; omega

/-! by sets -/
def shTo (l : List Int) (n e : Nat) : Nat → Int
  | 0 => 0
  | s + 1 => if ibit (s : Int) e = 1 then shTo l n e s else shTo l n e s + (fact (pop s) : Int) * (fact (n - 1 - pop s) : Int) * (l.getD (setBit s e) 0 - l.getD s 0)
def shapL (n : Nat) (l : List Int) : List Int := (List.range n).map fun e => shTo l n e (2 ^ n)
def shapOf (n : Int) (l : List Int) : List Int := if isFunB n l then shapL n.toNat l else []

theorem shapOf_len (n : Int) (l : List Int) : (shapOf n l).length ≤ 1048576 := by
  unfold shapOf
  split
  · rename_i hf
    obtain ⟨h0, h5, _⟩ := funOk hf
    simp [shapL]; omega
  · simp

/-! sums of differences -/
def lin (l : List Int) : List (Int × Nat × Nat) → Int
  | [] => 0
  | t :: ts => lin l ts + t.1 * (l.getD t.2.1 0 - l.getD t.2.2 0)
def one (a i : Nat) : Int := if a = i then 1 else 0
def coef (i : Nat) : List (Int × Nat × Nat) → Int
  | [] => 0
  | t :: ts => coef i ts + t.1 * (one t.2.1 i - one t.2.2 i)
def sumN (f : Nat → Int) : Nat → Int
  | 0 => 0
  | n + 1 => sumN f n + f n
theorem sumN_congr {f g : Nat → Int} {n : Nat} (h : ∀ i, i < n → f i = g i) : sumN f n = sumN g n := by
  induction n with
  | zero => rfl
  | succ n ih => rw [sumN, sumN, ih (fun i hi => h i (by omega)), h n (by omega)]
theorem sumN_add (f g : Nat → Int) (n : Nat) : sumN (fun i => f i + g i) n = sumN f n + sumN g n := by
  induction n with
  | zero => rfl
  | succ n ih => rw [sumN, sumN, sumN, ih]; omega
theorem sumN_zero (n : Nat) : sumN (fun _ => 0) n = 0 := by
  induction n with
  | zero => rfl
  | succ n ih => rw [sumN, ih]; rfl
theorem sumN_one (l : List Int) (a n : Nat) (c : Int) : sumN (fun i => c * one a i * l.getD i 0) n = if a < n then c * l.getD a 0 else 0 := by
  induction n with
  | zero => simp [sumN]
  | succ n ih =>
    rw [sumN, ih]
    unfold one
    by_cases h1 : a < n
    · rw [if_pos h1, if_neg (show ¬ a = n by omega), if_pos (show a < n + 1 by omega)]; simp
    · by_cases h2 : a = n
      · subst h2; simp
      · rw [if_neg h1, if_neg h2, if_neg (show ¬ a < n + 1 by omega)]; simp
theorem lin_coef (l : List Int) (n : Nat) (ts : List (Int × Nat × Nat)) (h : ∀ t ∈ ts, t.2.1 < n ∧ t.2.2 < n) : lin l ts = sumN (fun i => coef i ts * l.getD i 0) n := by
  induction ts with
  | nil => simp only [lin, coef, Int.zero_mul, sumN_zero]
  | cons t ts ih =>
    have ht := h t (by simp)
    rw [lin, ih (fun x hx => h x (by simp [hx]))]
    have e : (fun i => coef i (t :: ts) * l.getD i 0) = fun i => coef i ts * l.getD i 0 + (t.1 * one t.2.1 i * l.getD i 0 + (-t.1) * one t.2.2 i * l.getD i 0) := by
      funext i
      rw [coef, Int.add_mul, Int.mul_sub, Int.sub_mul, Int.neg_mul, Int.neg_mul]; omega
    rw [e, sumN_add, sumN_add, sumN_one, sumN_one, if_pos ht.1, if_pos ht.2, Int.mul_sub, Int.neg_mul]; omega

def cornerP (o : List Int) : Nat → List (Nat × Nat)
  | 0 => List.replicate o.length (0, 0)
  | k + 1 => (cornerP o k).set (o.getD k 0).toNat (setBit (prefS o k) (o.getD k 0).toNat, prefS o k)
theorem cornerP_map (l o : List Int) (k : Nat) : cornerTo l o k = (cornerP o k).map fun p => l.getD p.1 0 - l.getD p.2 0 := by
  induction k with
  | zero => simp [cornerTo, cornerP]
  | succ k ih => rw [cornerTo, cornerP, List.map_set, ih]; rfl
def tI (os : List (List Int)) (e : Nat) : Nat → List (Int × Nat × Nat)
  | 0 => []
  | j + 1 => (1, (cornerP (os.getD j []) (os.getD j []).length).getD e (0, 0)) :: tI os e j
def tS (n e : Nat) : Nat → List (Int × Nat × Nat)
  | 0 => []
  | s + 1 => if ibit (s : Int) e = 1 then tS n e s else ((fact (pop s) : Int) * (fact (n - 1 - pop s) : Int), setBit s e, s) :: tS n e s
theorem tot_lin (l : List Int) (os : List (List Int)) (e j : Nat) : tot l os e j = lin l (tI os e j) := by
  induction j with
  | zero => rfl
  | succ j ih =>
    rw [tot, tI, lin, ih]
    unfold cornerL
    rw [cornerP_map]
    generalize cornerP (os.getD j []) (os.getD j []).length = P
    have : (P.map fun p => l.getD p.1 0 - l.getD p.2 0).getD e 0 = l.getD (P.getD e (0, 0)).1 0 - l.getD (P.getD e (0, 0)).2 0 := by
      rw [List.getD_eq_getElem?_getD, List.getElem?_map, List.getD_eq_getElem?_getD]
      cases hP : P[e]? with
      | none => simp [hP]
      | some p => simp [hP]
    rw [this, Int.one_mul]
theorem shTo_lin (l : List Int) (n e s : Nat) : shTo l n e s = lin l (tS n e s) := by
  induction s with
  | zero => rfl
  | succ s ih =>
    rw [shTo, tS]
    by_cases h : ibit (s : Int) e = 1
    · rw [if_pos h, if_pos h, ih]
    · rw [if_neg h, if_neg h, lin, ih]
def sameCoef (ts us : List (Int × Nat × Nat)) (n : Nat) : Bool :=
  ts.all (fun t => decide (t.2.1 < n) && decide (t.2.2 < n)) && us.all (fun t => decide (t.2.1 < n) && decide (t.2.2 < n)) && (List.range n).all fun i => coef i ts == coef i us
theorem lin_same (l : List Int) (ts us : List (Int × Nat × Nat)) (n : Nat) (h : sameCoef ts us n = true) : lin l ts = lin l us := by
  unfold sameCoef at h
  simp only [Bool.and_eq_true, List.all_eq_true, decide_eq_true_eq, List.mem_range, beq_iff_eq] at h
  rw [lin_coef l n ts h.1.1, lin_coef l n us h.1.2]
  exact sumN_congr fun i hi => by rw [h.2 i hi]
theorem shap_check : ∀ n, n ≤ 5 → ∀ e, e < n → sameCoef (tI (ordersN n n) e (ordersN n n).length) (tS n e (2 ^ n)) (2 ^ n) = true := by decide +kernel
theorem shap_same (n : Nat) (hn : n ≤ 5) (l : List Int) : rowT l (ordersN n n) n (ordersN n n).length = shapL n l := by
  unfold rowT shapL
  apply List.map_congr_left
  intro e he
  rw [tot_lin, shTo_lin]
  exact lin_same l _ _ _ (shap_check n hn e (by simpa using he))
end Go.Proofs.Ytgdkeaooipmgbaa
end
section
namespace Go.Proofs.Ytgdkeaooipmgbaa
open Go.RowKit Go.G5

end Go.Proofs.Ytgdkeaooipmgbaa
end
section
namespace Go.Proofs.Ytgdkeaooipmgbaa
open Go.RowKit Go.G5

set_option maxHeartbeats 2000000 in
set_option maxRecDepth 100000 in
theorem makeFunction2_any (w : World) (n : Nat) (hn : n ≤ 5) (c : FuncId) (he : ∀ args w, (callFunc c args).run Try.prog w = .ok (.enter c args) w) (g g' : Nat) (F : Nat → Int) (hF : ∀ s, s < 2 ^ n → InR (F s))
    (hw : ∀ (s : Nat) W', s < 2 ^ n → Below w.heap.size w W' → Calls Try.prog c #[.int .i64 (s : Int), .pointer (some ⟨g, 0, none⟩), .pointer (some ⟨g', 0, none⟩)] W' fun e w2 => e = .returned (.int .i64 (F s)) ∧ Below W'.heap.size W' w2) :
    Calls Try.prog 41 #[.int .i64 (n : Int), .func (.func c) #[] #[.pointer (some ⟨g, 0, none⟩), .pointer (some ⟨g', 0, none⟩)]] w fun e w' =>
      ∃ ad i cp, e = .returned (.tuple #[.agg #[.int .i64 (if isFunB n (madeL F (2 ^ n)) then (n : Int) else 0), .slice ad i cp], .bool (isFunB n (madeL F (2 ^ n)))]) ∧ OwnI 3 w.heap.size w' (.slice ad i cp) (if isFunB n (madeL F (2 ^ n)) then madeL F (2 ^ n) else []) ∧ Below w.heap.size w w' := by
  have hpn : (2 : Nat) ^ n ≤ 32 := Nat.pow_le_pow_right (by decide) hn
  have hp1 := Nat.two_pow_pos n
  have hpi : ((2 ^ n : Nat) : Int) = (2 : Int) ^ n := by simp
  obtain ⟨N, hN⟩ : ∃ N : Nat, N = 2 ^ n := ⟨_, rfl⟩
  rw [← hN] at hw hF hpn hp1 hpi ⊢
  clear hN
  have r0 := (BoxAt.new w (.int .i64 0) (.slice none 0 0) 26)
  have r1 := r0.keep (bl1 _ (.cells #[.int .i64 n, .slice none 0 0] 26))
  have b1 := BoxAt.new (w.alloc (.cells #[.int .i64 0, .slice none 0 0] 26)) (.int .i64 n) (.slice none 0 0) 26
  go_enter Try.func41, Try.ntmps41
  go_wp2_with fail
  go_loopw [13] (fun i wr => ∃ (k : Nat) (ad : Option Addr) (nn cp : Nat), k ≤ N ∧ i = .int .i64 k ∧ OwnI 3 (w.heap.size + 1 + 1) wr (.slice ad nn cp) (madeL F k) ∧ Below w.heap.size w wr ∧
      BoxAt wr w.heap.size (.int .i64 0) (.slice none 0 0) ∧ BoxAt wr (w.heap.size + 1) (.int .i64 n) (.slice ad nn cp))
    (fun i _ => N - (intOf i).toNat)
  case atStart => exact ⟨0, none, 0, 0, Nat.zero_le _, rfl, OwnI.nil _ _ _, (by repeat (first | exact Below.refl _ _ | (with_reducible refine Below.setCell ?_ (by first | omega | (simp; done) | (simp; omega)) _) | (with_reducible refine Below.alloc ?_ (by first | omega | (simp; done) | (simp; omega)) _) | (with_reducible refine Below.drewN' ?_ _) | (with_reducible refine Below.drew ?_) | (with_reducible assumption) | refine Below.trans ?_ (Below.mono (by assumption) (by first | omega | (simp; done) | (simp; omega))))), r1, by simpa using b1⟩
  case round =>
    obtain ⟨k, ad, nn, cp, hk, rfl, ho, B, R, X⟩ := hrel
    clear r0 r1 b1
    by_cases hlt : k < N
    · have hlt2 : (k : Int) < 2 ^ n := by rw [← hpi]; exact_mod_cast hlt
      have zr := R.lt
      have zx := X.lt
      have hFk := hF k hlt
      have hlen : (madeL F k).length = k := by simp [madeL]
      have hlk : (madeL F k).length ≤ 64 := by omega
      have hrow := ho.lt
      have HO := Lib.hid ho
      have HR := Lib.hid R
      have HXX := Lib.hid X
      obtain ⟨e0, e1, g0, g1⟩ := X
      clear ho R
      have hcl := hw k wr.drew hlt B.drew
      clear hw
      go_wp2
      go_region_law
        (first
          | (go_simp; go_at_fn c; refine hcl.mono ?_; rintro e w2 ⟨rfl, hb2⟩; have X2 := HXX.out.keep ((Below.refl _ _).drew.after hb2 (Nat.le_refl _)); have X3 := X2.keep (bl1 w2 (.cells #[.int .i64 (F k)] 3)); have zz2 := X2.lt; have x1 := X2.d1; have x2 := X2.f1; have x3 := X3.d1; have x4 := X3.f1)
          | (refine step_appendI rfl _ _ _ rfl 3 Try.underlying24 intElem (w.heap.size + 1 + 1) _ _ (F k) w2.heap.size rfl rfl (cell_new w2 #[.int .i64 (F k)] 3 0 _ rfl) ((HO.out.keep ((Below.refl _ _).drew.after hb2 (Nat.le_refl _))).alloc (.cells #[.int .i64 (F k)] 3)) hFk (by omega) (by simp; omega) ?_; intro v' w6 hown hgr; obtain ⟨av, nv, cv, rfl⟩ := hown.shape3; have X6 := X3.grow hgr (fun e => by have := (hrow _ e).1; omega); obtain ⟨i0, i1, j0, j1⟩ := X6))
      all_goals
       have B6 : Below w.heap.size w w6 := (((B.drew).after hb2 B.size).alloc (B.drew.after hb2 B.size).size (.cells #[.int .i64 (F k)] 3)).grown hgr (by simp; omega) (fun q hq => by have := (hrow q hq).1; omega)
       have R6 := ((HR.out.keep ((Below.refl _ _).drew.after hb2 (Nat.le_refl _))).keep (bl1 w2 (.cells #[.int .i64 (F k)] 3))).grow hgr (fun e => by have := (hrow _ e).1; omega)
       go_wp2
       go_roundw
       case rel => exact ⟨k + 1, av, nv, cv, by omega, by go_num, by rw [madeL_succ]; exact hown.setBelow (by first | omega | (simp; done) | (simp; omega)) _, B6.setCell (by first | omega | (simp; done) | (simp; omega)) _, R6.other (by omega) _, (BoxAt.mk i0 i1 j0 j1).set1 _⟩
       case measure => simp [intOf]; omega
    · have hlt2 : ¬ (k : Int) < 2 ^ n := by rw [← hpi]; exact_mod_cast hlt
      have hkN : k = N := by omega
      subst hkN
      have HO := Lib.hid ho
      have HR := Lib.hid R
      have HXX := Lib.hid X
      obtain ⟨e0, e1, g0, g1⟩ := X
      have hi := ho.ints
      clear ho hw R
      go_wp2_with fail
      refine (isFunI_any n _ _ _ hi).mono ?_
      rintro e w2 ⟨rfl, hb2⟩
      have B2 := B.after hb2 B.size
      have o2 := HO.out.keep hb2
      have HO2 := Lib.hid o2
      obtain ⟨f0, f1, j0, j1⟩ := HR.out.keep hb2
      obtain ⟨i0, i1, q0, q1⟩ := HXX.out.keep hb2
      clear e0 e1 g0 g1 hb2 B o2 hi
      cases hf : isFunB n (madeL F k) with
      | false =>
        have HF := Lib.hid hf
        go_wp2
        all_goals refine bodyPost_ret (v := .tuple #[.agg #[.int .i64 0, .slice none 0 0], .bool false]) (by simp [results, Try.results41, go_sem, f0, f1]) rfl ⟨none, 0, 0, rfl, OwnI.nil _ _ _, Below.setCell (Below.setCell B2 (Nat.le_refl _) _) (Nat.le_refl _) _⟩
      | true =>
        have HF := Lib.hid hf
        go_wp2
        refine bodyPost_ret (v := .tuple #[.agg #[.int .i64 n, .slice ad nn cp], .bool true]) (by simp [results, Try.results41, go_sem, f0, f1]) rfl ⟨ad, nn, cp, rfl, ?_, ?_⟩
        · exact ((HO2.out.setBelow (by first | omega | (simp; done) | (simp; omega)) _).setBelow (by first | omega | (simp; done) | (simp; omega)) _).mono (by first | omega | (simp; done) | (simp; omega))
        · exact Below.setCell (Below.setCell B2 (Nat.le_refl _) _) (Nat.le_refl _) _
end Go.Proofs.Ytgdkeaooipmgbaa
end
