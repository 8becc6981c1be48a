/- Powers of elements, in plain words. Masses of functions. Increasing functions: the second program. -/
import Derived.Test.YtipejodijbjpcaaGreatDoorQ15
import Derived.StillTailTactics
section
namespace Go.Proofs.YtipejodijbjpcaaGreatDoor
open Go.RowKit Go.G5

/-! by orders -/
def tot (l : List Int) (os : List (List Int)) (e : Nat) : Nat → Int
  | 0 => 0
  | j + 1 => tot l os e j + (cornerL l (os.getD j [])).getD e 0
def rowT (l : List Int) (os : List (List Int)) (n j : Nat) : List Int := (List.range n).map fun e => tot l os e j
theorem rowT_len (l : List Int) (os : List (List Int)) (n j : Nat) : (rowT l os n j).length = n := by simp [rowT]
theorem rowT_get (l : List Int) (os : List (List Int)) (n j e : Nat) (h : e < (rowT l os n j).length) : (rowT l os n j)[e] = tot l os e j := by simp [rowT]
theorem rowT_zero (l : List Int) (os : List (List Int)) (n : Nat) : rowT l os n 0 = List.replicate n 0 := by
  apply List.ext_getElem
  · simp [rowT]
  · intro i h1 h2
    simp [rowT, tot]
theorem mix_step (A B : List Int) (e : Nat) (hA : e < A.length) (hB : A.length = B.length) : (A.take e ++ B.drop e).set e A[e] = A.take (e + 1) ++ B.drop (e + 1) := by
  apply List.ext_getElem
  · simp; omega
  · intro i h1 h2
    simp only [List.length_set, List.length_append, List.length_take, List.length_drop] at h1 h2
    rw [List.getElem_set]
    by_cases hi : e = i
    · subst hi
      rw [if_pos rfl, List.getElem_append_left (by simp; omega)]; simp
    · rw [if_neg hi]
      by_cases hie : i < e
      · rw [List.getElem_append_left (by simp; omega), List.getElem_append_left (by simp; omega)]; simp
      · rw [List.getElem_append_right (by simp; omega), List.getElem_append_right (by simp; omega)]
        simp only [List.length_take, List.getElem_drop]
        congr 1; omega
theorem mix_len (A B : List Int) (e : Nat) (hA : e ≤ A.length) (hB : A.length = B.length) : (A.take e ++ B.drop e).length = A.length := by simp; omega
theorem mix_get (A B : List Int) (e : Nat) (hA : e < A.length) (hB : A.length = B.length) (h : e < (A.take e ++ B.drop e).length) : (A.take e ++ B.drop e)[e] = B[e] := by
  rw [List.getElem_append_right (by simp; omega)]
  simp only [List.length_take, List.getElem_drop]
  congr 1; omega

/-! by sets -/
def shTo (l : List Int) (n e : Nat) : Nat → Int
  | 0 => 0
  | s + 1 => if ibit (s : Int) e = 1 then shTo l n e s else shTo l n e s + (fact (pop s) : Int) * (fact (n - 1 - pop s) : Int) * (l.getD (setBit s e) 0 - l.getD s 0)
def shapL (n : Nat) (l : List Int) : List Int := (List.range n).map fun e => shTo l n e (2 ^ n)
def shapOf (n : Int) (l : List Int) : List Int := if isFunB n l then shapL n.toNat l else []

theorem shapOf_len (n : Int) (l : List Int) : (shapOf n l).length ≤ 1048576 := by
  unfold shapOf
  split
  · rename_i hf
    obtain ⟨h0, h5, _⟩ := funOk hf
    simp [shapL]; omega
  · simp

/-! sums of differences -/
def lin (l : List Int) : List (Int × Nat × Nat) → Int
  | [] => 0
  | t :: ts => lin l ts + t.1 * (l.getD t.2.1 0 - l.getD t.2.2 0)
def one (a i : Nat) : Int := if a = i then 1 else 0
def coef (i : Nat) : List (Int × Nat × Nat) → Int
  | [] => 0
  | t :: ts => coef i ts + t.1 * (one t.2.1 i - one t.2.2 i)
def sumN (f : Nat → Int) : Nat → Int
  | 0 => 0
  | n + 1 => sumN f n + f n
theorem sumN_congr {f g : Nat → Int} {n : Nat} (h : ∀ i, i < n → f i = g i) : sumN f n = sumN g n := by
  induction n with
  | zero => rfl
  | succ n ih => rw [sumN, sumN, ih (fun i hi => h i (by omega)), h n (by omega)]
theorem sumN_add (f g : Nat → Int) (n : Nat) : sumN (fun i => f i + g i) n = sumN f n + sumN g n := by
  induction n with
  | zero => rfl
  | succ n ih => rw [sumN, sumN, sumN, ih]; omega
theorem sumN_zero (n : Nat) : sumN (fun _ => 0) n = 0 := by
  induction n with
  | zero => rfl
  | succ n ih => rw [sumN, ih]; rfl
theorem sumN_one (l : List Int) (a n : Nat) (c : Int) : sumN (fun i => c * one a i * l.getD i 0) n = if a < n then c * l.getD a 0 else 0 := by
  induction n with
  | zero => simp [sumN]
  | succ n ih =>
    rw [sumN, ih]
    unfold one
    by_cases h1 : a < n
    · rw [if_pos h1, if_neg (show ¬ a = n by omega), if_pos (show a < n + 1 by omega)]; simp
    · by_cases h2 : a = n
      · subst h2; simp
      · rw [if_neg h1, if_neg h2, if_neg (show ¬ a < n + 1 by omega)]; simp
theorem lin_coef (l : List Int) (n : Nat) (ts : List (Int × Nat × Nat)) (h : ∀ t ∈ ts, t.2.1 < n ∧ t.2.2 < n) : lin l ts = sumN (fun i => coef i ts * l.getD i 0) n := by
  induction ts with
  | nil => simp only [lin, coef, Int.zero_mul, sumN_zero]
  | cons t ts ih =>
    have ht := h t (by simp)
    rw [lin, ih (fun x hx => h x (by simp [hx]))]
    have e : (fun i => coef i (t :: ts) * l.getD i 0) = fun i => coef i ts * l.getD i 0 + (t.1 * one t.2.1 i * l.getD i 0 + (-t.1) * one t.2.2 i * l.getD i 0) := by
      funext i
      rw [coef, Int.add_mul, Int.mul_sub, Int.sub_mul, Int.neg_mul, Int.neg_mul]; omega
    rw [e, sumN_add, sumN_add, sumN_one, sumN_one, if_pos ht.1, if_pos ht.2, Int.mul_sub, Int.neg_mul]; omega

def cornerP (o : List Int) : Nat → List (Nat × Nat)
  | 0 => List.replicate o.length (0, 0)
  | k + 1 => (cornerP o k).set (o.getD k 0).toNat (setBit (prefS o k) (o.getD k 0).toNat, prefS o k)
theorem cornerP_map (l o : List Int) (k : Nat) : cornerTo l o k = (cornerP o k).map fun p => l.getD p.1 0 - l.getD p.2 0 := by
  induction k with
  | zero => simp [cornerTo, cornerP]
  | succ k ih => rw [cornerTo, cornerP, List.map_set, ih]; rfl
def tI (os : List (List Int)) (e : Nat) : Nat → List (Int × Nat × Nat)
  | 0 => []
  | j + 1 => (1, (cornerP (os.getD j []) (os.getD j []).length).getD e (0, 0)) :: tI os e j
def tS (n e : Nat) : Nat → List (Int × Nat × Nat)
  | 0 => []
  | s + 1 => if ibit (s : Int) e = 1 then tS n e s else ((fact (pop s) : Int) * (fact (n - 1 - pop s) : Int), setBit s e, s) :: tS n e s
theorem tot_lin (l : List Int) (os : List (List Int)) (e j : Nat) : tot l os e j = lin l (tI os e j) := by
  induction j with
  | zero => rfl
  | succ j ih =>
    rw [tot, tI, lin, ih]
    unfold cornerL
    rw [cornerP_map]
    generalize cornerP (os.getD j []) (os.getD j []).length = P
    have : (P.map fun p => l.getD p.1 0 - l.getD p.2 0).getD e 0 = l.getD (P.getD e (0, 0)).1 0 - l.getD (P.getD e (0, 0)).2 0 := by
      rw [List.getD_eq_getElem?_getD, List.getElem?_map, List.getD_eq_getElem?_getD]
      cases hP : P[e]? with
      | none => simp [hP]
      | some p => simp [hP]
    rw [this, Int.one_mul]
theorem shTo_lin (l : List Int) (n e s : Nat) : shTo l n e s = lin l (tS n e s) := by
  induction s with
  | zero => rfl
  | succ s ih =>
    rw [shTo, tS]
    by_cases h : ibit (s : Int) e = 1
    · rw [if_pos h, if_pos h, ih]
    · rw [if_neg h, if_neg h, lin, ih]
def sameCoef (ts us : List (Int × Nat × Nat)) (n : Nat) : Bool :=
  ts.all (fun t => decide (t.2.1 < n) && decide (t.2.2 < n)) && us.all (fun t => decide (t.2.1 < n) && decide (t.2.2 < n)) && (List.range n).all fun i => coef i ts == coef i us
theorem lin_same (l : List Int) (ts us : List (Int × Nat × Nat)) (n : Nat) (h : sameCoef ts us n = true) : lin l ts = lin l us := by
  unfold sameCoef at h
  simp only [Bool.and_eq_true, List.all_eq_true, decide_eq_true_eq, List.mem_range, beq_iff_eq] at h
  rw [lin_coef l n ts h.1.1, lin_coef l n us h.1.2]
  exact sumN_congr fun i hi => by rw [h.2 i hi]
theorem shap_check : ∀ n, n ≤ 5 → ∀ e, e < n → sameCoef (tI (ordersN n n) e (ordersN n n).length) (tS n e (2 ^ n)) (2 ^ n) = true := by decide +kernel
theorem shap_same (n : Nat) (hn : n ≤ 5) (l : List Int) : rowT l (ordersN n n) n (ordersN n n).length = shapL n l := by
  unfold rowT shapL
  apply List.map_congr_left
  intro e he
  rw [tot_lin, shTo_lin]
  exact lin_same l _ _ _ (shap_check n hn e (by simpa using he))
end Go.Proofs.YtipejodijbjpcaaGreatDoor
end
section
namespace Go.Proofs.YtipejodijbjpcaaGreatDoor
open Go.RowKit Go.G5

/-- the sum of the signed values of the parts of s below k -/
def massTo (l : List Int) (s : Nat) : Nat → Int
  | 0 => 0
  | k + 1 => if ndiff k s = 0 then (if pop (ndiff s k) % 2 = 1 then massTo l s k - l.getD k 0 else massTo l s k + l.getD k 0) else massTo l s k
def masses (l : List Int) : List Int := (List.range l.length).map fun s => massTo l s (s + 1)
def massesOf (n : Int) (l : List Int) : List Int := if isFunB n l then masses l else []
theorem massTo_bd (l : List Int) (s : Nat) (h : ∀ k, (hk : k < l.length) → -1000 ≤ l[k] ∧ l[k] ≤ 1000) (k : Nat) (hk : k ≤ l.length) : -1000 * (k : Int) ≤ massTo l s k ∧ massTo l s k ≤ 1000 * (k : Int) := by
  induction k with
  | zero => simp [massTo]
  | succ k ih =>
    have h1 := ih (by omega)
    have h2 := h k (by omega)
    rw [massTo, List.getD_eq_getElem?_getD, List.getElem?_eq_getElem (show k < l.length by omega), Option.getD_some]
    split
    · split <;> omega
    · omega
theorem masses_len (l : List Int) : (masses l).length = l.length := by simp [masses]
theorem masses_get (l : List Int) (s : Nat) (h : s < (masses l).length) : (masses l)[s] = massTo l s (s + 1) := by simp [masses]
theorem set_zero (l : List Int) (s n : Nat) (h : s < n) (hl : s ≤ l.length) : (l.take s ++ List.replicate (n - s) (0 : Int)).set s 0 = l.take s ++ List.replicate (n - s) 0 := by
  rw [show n - s = (n - s - 1) + 1 by omega, List.replicate_succ]
  have e : (l.take s).length = s := by simp; omega
  rw [List.set_append_right _ _ (by omega), e]
  simp
theorem mass_fill (l : List Int) (s : Nat) (h : s < l.length) : ((masses l).take s ++ List.replicate (l.length - s) (0 : Int)).set s (massTo l s (s + 1)) = (masses l).take (s + 1) ++ List.replicate (l.length - (s + 1)) 0 := by
  have := fill_step (masses l) s (by rw [masses_len]; exact h)
  simp only [masses_get, masses_len] at this
  exact this

theorem massesOf_len (n : Int) (l : List Int) (h : l.length ≤ 1048576) : (massesOf n l).length ≤ 1048576 := by
  unfold massesOf; split
  · rw [masses_len]; exact h
  · simp

theorem ndiff_zero (a b : Nat) : ndiff a b = 0 ↔ a &&& b = a := by
  have := @Nat.and_le_left a b
  unfold ndiff; omega
theorem ndiff_sub (a b : Nat) (h : b &&& a = b) : ndiff a b = a - b := by unfold ndiff; rw [Nat.and_comm, h]
theorem masses_take (l : List Int) (s : Nat) (h : s < l.length) : (masses l).take (s + 1) = (masses l).take s ++ [massTo l s (s + 1)] := by
  rw [List.take_succ_eq_append_getElem (by rw [masses_len]; exact h), masses_get]

/-! only positive masses -/
def onlyPosB (n : Int) (l : List Int) : Bool := isFunB n l && allIn ((masses l).drop 1) 0 1099511627776

theorem allIn_drop_false (m : List Int) (k : Nat) (h1 : 1 ≤ k) (h : k < m.length) (hneg : m[k] < 0) (hi : Int) : allIn (m.drop 1) 0 hi = false := by
  unfold allIn
  refine all_false_at _ _ (k - 1) (by simp; omega) ?_
  simp only [List.getElem_drop]
  have e : 1 + (k - 1) = k := by omega
  simp only [e]
  exact inB_false.2 (.inl hneg)
theorem allIn_drop_true (m : List Int) (h : ∀ k, (hk : k < m.length) → 1 ≤ k → 0 ≤ m[k] ∧ m[k] ≤ 1099511627776) : allIn (m.drop 1) 0 1099511627776 = true := by
  unfold allIn
  rw [List.all_eq_true]
  intro x hx
  obtain ⟨j, hj, rfl⟩ := List.getElem_of_mem hx
  simp only [List.getElem_drop]
  simp at hj
  exact inB_true.2 (h (1 + j) (by omega) (by omega))

end Go.Proofs.YtipejodijbjpcaaGreatDoor
end
section
namespace Go.Proofs.YtipejodijbjpcaaGreatDoor
open Go.RowKit Go.G5

set_option maxHeartbeats 4000000 in
set_option maxRecDepth 100000 in
theorem incS_any (n : Int) (l : List Int) (v : Value) (w : World) (hv : Ints w v l) :
    Calls Tryz.prog 372 #[.agg #[.int .i64 n, v]] w fun e w' => e = .returned (.bool (incB n l)) ∧ Below w.heap.size w w' := by
  have hv0 := hv
  obtain ⟨a, b, off, c, rfl, hlen, hix, hc, hb⟩ := hv.view Tryz.prog 22 3 Tryz.underlying22 intElem
  have K0 := Blk.new w 32 #[.int .i64 n, .slice a l.length c]
  cases hf : isFunB n l with
  | false =>
    have hx : incB n l = false := by unfold incB; rw [hf]; rfl
    have HX := Lib.hid hx
    have HF := Lib.hid hf
    clear hx hf
    go_enter Tryz.func372, Tryz.ntmps372
    go_wp2_with fail
    go_loopw [3] (fun i wr => i = .int .i64 0 ∧ Below w.heap.size w wr ∧ Blk wr w.heap.size 32 #[.int .i64 n, .slice a l.length c]) (fun _ _ => 0)
    case atStart => exact ⟨rfl, bl1 _ _, K0⟩
    case round =>
      obtain ⟨rfl, B, K⟩ := hrel
      have G1 := K.cell
      go_wp2_with fail
      refine (isFunS_any n l _ _ (hv0.below B (Nat.le_refl _))).mono ?_
      rintro e w1 ⟨rfl, hb1⟩
      rw [HF.out]
      have B1 := B.after hb1 B.size
      have K1 := K.keep hb1
      clear G1
      have G1 := K1.cell
      go_wp2_with fail
      refine (isFunS_any n l _ _ (hv0.below B1 (Nat.le_refl _))).mono ?_
      rintro e w2 ⟨rfl, hb2⟩
      rw [HF.out]
      go_wp2
      go_ret
      exact ⟨ret_bool HX.out.symm, B1.after hb2 B1.size⟩
  | true =>
    obtain ⟨N, rfl, hN5, hl2, hl32, hlb⟩ := fun_nat hf
    have hx : incB N l = allTo (fun s => allTo (upB l s) N) l.length := by unfold incB; rw [hf]; simp
    obtain ⟨F, hF⟩ : ∃ F : Nat → Bool, F = fun s => allTo (upB l s) N := ⟨_, rfl⟩
    rw [← hF] at hx
    have HX := Lib.hid hx
    have HF := Lib.hid hf
    have HFF := Lib.hid hF
    have HLB := Lib.hid hlb
    have HL2 := Lib.hid hl2
    have HC := Lib.hid hc
    have HIX := Lib.hid hix
    clear hx hf hF hlb hl2 hc hix
    go_enter Tryz.func372, Tryz.ntmps372
    go_wp2_with fail
    go_loopw [3] (fun i wr => ∃ s : Nat, s ≤ l.length ∧ i = .int .i64 s ∧ allTo F s = true ∧ Below w.heap.size w wr ∧ Blk wr w.heap.size 32 #[.int .i64 N, .slice a l.length c]) (fun i _ => l.length - (intOf i).toNat)
    case atStart => exact ⟨0, Nat.zero_le _, rfl, rfl, bl1 _ _, K0⟩
    case round =>
      obtain ⟨s, hs, rfl, hall, B, K⟩ := hrel
      obtain ⟨wo, rfl⟩ : ∃ wo : World, wo = wr := ⟨_, rfl⟩
      have H := Lib.hid hall
      clear hall K0
      have G1 := K.cell
      go_wp2_with fail
      refine (isFunS_any N l _ _ (hv0.below B (Nat.le_refl _))).mono ?_
      rintro e w1 ⟨rfl, hb1⟩
      rw [HF.out]
      have K := K.keep hb1
      have B1 := B.after hb1 B.size
      clear G1 hb1 B
      have G1 := K.cell
      by_cases hsl : s < l.length
      · have hFs : F s = allTo (upB l s) N := by rw [HFF.out]
        have HFS := Lib.hid hFs
        clear hFs
        go_wp2_with fail
        go_loopw [4] (fun i wr => ∃ k : Nat, k ≤ N ∧ i = .int .i64 k ∧ allTo (upB l s) k = true ∧ Below w.heap.size w wr ∧ Blk wr w.heap.size 32 #[.int .i64 N, .slice a l.length c]) (fun i _ => N - (intOf i).toNat)
        case atStart => exact ⟨0, Nat.zero_le _, rfl, rfl, B1, K⟩
        case round =>
          obtain ⟨k, hk, rfl, hall, B2, K2⟩ := hrel
          obtain ⟨wi, rfl⟩ : ∃ wo : World, wo = wr := ⟨_, rfl⟩
          have H2 := Lib.hid hall
          clear hall G1
          have G1 := K2.cell
          by_cases hkn : k < N
          · have hse : setBit s k < l.length := by rw [HL2.out] at hsl ⊢; exact setBit_lt _ _ _ hsl hkn
            have c0 := cells_below HC.out hb B2 (Nat.le_refl _) s hsl
            have c1 := cells_below HC.out hb B2 (Nat.le_refl _) _ hse
            have i0 := fun W => HIX.out W s hsl
            have i1 := fun W => HIX.out W _ hse
            have q1 := setBit_is s k (by omega) (by omega)
            have hup : upB l s k = !decide (l[setBit s k] - l[s] < 0) := by unfold upB gainL; rw [getD_at l _ hse, getD_at l _ hsl]
            obtain ⟨u1, hu1⟩ : ∃ u, u = setBit s k := ⟨_, rfl⟩
            simp only [← hu1] at c1 i1 q1 hup
            obtain ⟨x0, hx0⟩ : ∃ x, x = l[s] := ⟨_, rfl⟩
            rw [← hx0] at c0 hup
            have hse2 : u1 < l.length := hu1 ▸ hse
            obtain ⟨x1, hx1⟩ : ∃ x, x = l[u1] := ⟨_, rfl⟩
            rw [← hx1] at c1 hup
            have pk := two_pow k 6 (by omega)
            have pk1 : (2 : Int) ^ k ≤ 64 := by simpa using pk.1
            have pk2 := pk.2
            have wk : IntKind.i64.wrap ((2 : Int) ^ k) = 2 ^ k := by rw [IntKind.wrap_i64]; omega
            have hk5 : k < 5 := by omega
            have HUP := Lib.hid hup
            clear hup hx0 hx1 pk hse
            by_cases hneg : x1 < x0
            · have hu : upB l s k = false := by rw [HUP.out, decide_eq_true (by omega)]; rfl
              have hbad : incB N l = false := by rw [HX.out]; exact allTo_false hsl (by rw [HFS.out]; exact allTo_false hkn hu)
              have HBAD := Lib.hid hbad
              clear hu hbad hu1
              go_wp2_with fail
              go_quiet (fail)
              go_wp2
              go_ret
              exact ⟨ret_bool HBAD.out.symm, B2.drewN' _⟩
            · have hu : upB l s k = true := by rw [HUP.out, decide_eq_false (by omega)]; rfl
              have HU := Lib.hid hu
              clear hu hu1
              go_wp2_with fail
              go_quiet (fail)
              go_wp2
              go_roundw
              case rel => exact ⟨k + 1, by omega, by go_num, allTo_succ H2.out HU.out, B2.drewN' _, K2.drewN _⟩
              case measure => simp [intOf]; omega
          · have hkN : k = N := by omega
            subst hkN
            go_wp2
            go_roundw
            case rel => exact ⟨s + 1, by omega, by go_num, allTo_succ H.out (by rw [HFS.out]; exact H2.out), B2, K2⟩
            case measure => simp [intOf]; omega
      · have hsl' : s = l.length := by omega
        subst hsl'
        go_wp2_with fail
        refine (isFunS_any N l _ _ (hv0.below B1 (Nat.le_refl _))).mono ?_
        rintro e w2 ⟨rfl, hb2⟩
        rw [HF.out]
        go_wp2
        go_ret
        exact ⟨ret_bool (by rw [HX.out, H.out]), B1.after hb2 B1.size⟩
end Go.Proofs.YtipejodijbjpcaaGreatDoor
end
