/- Powers of elements, in plain words. Masses of functions. Minimum cuts: what is computed. Minimum cuts: the first program. Minimum cuts: the first program's search, and claims of it. -/
import Derived.Test.YtpaoiiiceekkkaaGreatDoorQ24
import Derived.StillTailTactics
import Derived.Deep.RegionHeld3
section
namespace Go.Proofs.YtpaoiiiceekkkaaGreatDoor
open Go.RowKit Go.G5

/-! by orders -/
def tot (l : List Int) (os : List (List Int)) (e : Nat) : Nat → Int
  | 0 => 0
  | j + 1 => tot l os e j + (cornerL l (os.getD j [])).getD e 0
def rowT (l : List Int) (os : List (List Int)) (n j : Nat) : List Int := (List.range n).map fun e => tot l os e j
theorem rowT_len (l : List Int) (os : List (List Int)) (n j : Nat) : (rowT l os n j).length = n := by simp [rowT]
theorem rowT_get (l : List Int) (os : List (List Int)) (n j e : Nat) (h : e < (rowT l os n j).length) : (rowT l os n j)[e] = tot l os e j := by simp [rowT]
theorem rowT_zero (l : List Int) (os : List (List Int)) (n : Nat) : rowT l os n 0 = List.replicate n 0 := by
  apply List.ext_getElem
  · simp [rowT]
  · intro i h1 h2
    simp [rowT, tot]
theorem mix_step (A B : List Int) (e : Nat) (hA : e < A.length) (hB : A.length = B.length) : (A.take e ++ B.drop e).set e A[e] = A.take (e + 1) ++ B.drop (e + 1) := by
  apply List.ext_getElem
  · simp; omega
  · intro i h1 h2
    simp only [List.length_set, List.length_append, List.length_take, List.length_drop] at h1 h2
    rw [List.getElem_set]
    by_cases hi : e = i
    · subst hi
      rw [if_pos rfl, List.getElem_append_left (by simp; omega)]; simp
    · rw [if_neg hi]
      by_cases hie : i < e
      · rw [List.getElem_append_left (by simp; omega), List.getElem_append_left (by simp; omega)]; simp
      · rw [List.getElem_append_right (by simp; omega), List.getElem_append_right (by simp; omega)]
        simp only [List.length_take, List.getElem_drop]
        congr 1; omega
theorem mix_len (A B : List Int) (e : Nat) (hA : e ≤ A.length) (hB : A.length = B.length) : (A.take e ++ B.drop e).length = A.length := by simp; omega
theorem mix_get (A B : List Int) (e : Nat) (hA : e < A.length) (hB : A.length = B.length) (h : e < (A.take e ++ B.drop e).length) : (A.take e ++ B.drop e)[e] = B[e] := by
  rw [List.getElem_append_right (by simp; omega)]
  simp only [List.length_take, List.getElem_drop]
  congr 1; omega

/-! by sets -/
def shTo (l : List Int) (n e : Nat) : Nat → Int
  | 0 => 0
  | s + 1 => if ibit (s : Int) e = 1 then shTo l n e s else shTo l n e s + (fact (pop s) : Int) * (fact (n - 1 - pop s) : Int) * (l.getD (setBit s e) 0 - l.getD s 0)
def shapL (n : Nat) (l : List Int) : List Int := (List.range n).map fun e => shTo l n e (2 ^ n)
def shapOf (n : Int) (l : List Int) : List Int := if isFunB n l then shapL n.toNat l else []

theorem shapOf_len (n : Int) (l : List Int) : (shapOf n l).length ≤ 1048576 := by
  unfold shapOf
  split
  · rename_i hf
    obtain ⟨h0, h5, _⟩ := funOk hf
    simp [shapL]; omega
  · simp

/-! sums of differences -/
def lin (l : List Int) : List (Int × Nat × Nat) → Int
  | [] => 0
  | t :: ts => lin l ts + t.1 * (l.getD t.2.1 0 - l.getD t.2.2 0)
def one (a i : Nat) : Int := if a = i then 1 else 0
def coef (i : Nat) : List (Int × Nat × Nat) → Int
  | [] => 0
  | t :: ts => coef i ts + t.1 * (one t.2.1 i - one t.2.2 i)
def sumN (f : Nat → Int) : Nat → Int
  | 0 => 0
  | n + 1 => sumN f n + f n
theorem sumN_congr {f g : Nat → Int} {n : Nat} (h : ∀ i, i < n → f i = g i) : sumN f n = sumN g n := by
  induction n with
  | zero => rfl
  | succ n ih => rw [sumN, sumN, ih (fun i hi => h i (by omega)), h n (by omega)]
theorem sumN_add (f g : Nat → Int) (n : Nat) : sumN (fun i => f i + g i) n = sumN f n + sumN g n := by
  induction n with
  | zero => rfl
  | succ n ih => rw [sumN, sumN, sumN, ih]; omega
theorem sumN_zero (n : Nat) : sumN (fun _ => 0) n = 0 := by
  induction n with
  | zero => rfl
  | succ n ih => rw [sumN, ih]; rfl
theorem sumN_one (l : List Int) (a n : Nat) (c : Int) : sumN (fun i => c * one a i * l.getD i 0) n = if a < n then c * l.getD a 0 else 0 := by
  induction n with
  | zero => simp [sumN]
  | succ n ih =>
    rw [sumN, ih]
    unfold one
    by_cases h1 : a < n
    · rw [if_pos h1, if_neg (show ¬ a = n by omega), if_pos (show a < n + 1 by omega)]; simp
    · by_cases h2 : a = n
      · subst h2; simp
      · rw [if_neg h1, if_neg h2, if_neg (show ¬ a < n + 1 by omega)]; simp
theorem lin_coef (l : List Int) (n : Nat) (ts : List (Int × Nat × Nat)) (h : ∀ t ∈ ts, t.2.1 < n ∧ t.2.2 < n) : lin l ts = sumN (fun i => coef i ts * l.getD i 0) n := by
  induction ts with
  | nil => simp only [lin, coef, Int.zero_mul, sumN_zero]
  | cons t ts ih =>
    have ht := h t (by simp)
    rw [lin, ih (fun x hx => h x (by simp [hx]))]
    have e : (fun i => coef i (t :: ts) * l.getD i 0) = fun i => coef i ts * l.getD i 0 + (t.1 * one t.2.1 i * l.getD i 0 + (-t.1) * one t.2.2 i * l.getD i 0) := by
      funext i
      rw [coef, Int.add_mul, Int.mul_sub, Int.sub_mul, Int.neg_mul, Int.neg_mul]; omega
    rw [e, sumN_add, sumN_add, sumN_one, sumN_one, if_pos ht.1, if_pos ht.2, Int.mul_sub, Int.neg_mul]; omega

def cornerP (o : List Int) : Nat → List (Nat × Nat)
  | 0 => List.replicate o.length (0, 0)
  | k + 1 => (cornerP o k).set (o.getD k 0).toNat (setBit (prefS o k) (o.getD k 0).toNat, prefS o k)
theorem cornerP_map (l o : List Int) (k : Nat) : cornerTo l o k = (cornerP o k).map fun p => l.getD p.1 0 - l.getD p.2 0 := by
  induction k with
  | zero => simp [cornerTo, cornerP]
  | succ k ih => rw [cornerTo, cornerP, List.map_set, ih]; rfl
def tI (os : List (List Int)) (e : Nat) : Nat → List (Int × Nat × Nat)
  | 0 => []
  | j + 1 => (1, (cornerP (os.getD j []) (os.getD j []).length).getD e (0, 0)) :: tI os e j
def tS (n e : Nat) : Nat → List (Int × Nat × Nat)
  | 0 => []
  | s + 1 => if ibit (s : Int) e = 1 then tS n e s else ((fact (pop s) : Int) * (fact (n - 1 - pop s) : Int), setBit s e, s) :: tS n e s
theorem tot_lin (l : List Int) (os : List (List Int)) (e j : Nat) : tot l os e j = lin l (tI os e j) := by
  induction j with
  | zero => rfl
  | succ j ih =>
    rw [tot, tI, lin, ih]
    unfold cornerL
    rw [cornerP_map]
    generalize cornerP (os.getD j []) (os.getD j []).length = P
    have : (P.map fun p => l.getD p.1 0 - l.getD p.2 0).getD e 0 = l.getD (P.getD e (0, 0)).1 0 - l.getD (P.getD e (0, 0)).2 0 := by
      rw [List.getD_eq_getElem?_getD, List.getElem?_map, List.getD_eq_getElem?_getD]
      cases hP : P[e]? with
      | none => simp [hP]
      | some p => simp [hP]
    rw [this, Int.one_mul]
theorem shTo_lin (l : List Int) (n e s : Nat) : shTo l n e s = lin l (tS n e s) := by
  induction s with
  | zero => rfl
  | succ s ih =>
    rw [shTo, tS]
    by_cases h : ibit (s : Int) e = 1
    · rw [if_pos h, if_pos h, ih]
    · rw [if_neg h, if_neg h, lin, ih]
def sameCoef (ts us : List (Int × Nat × Nat)) (n : Nat) : Bool :=
  ts.all (fun t => decide (t.2.1 < n) && decide (t.2.2 < n)) && us.all (fun t => decide (t.2.1 < n) && decide (t.2.2 < n)) && (List.range n).all fun i => coef i ts == coef i us
theorem lin_same (l : List Int) (ts us : List (Int × Nat × Nat)) (n : Nat) (h : sameCoef ts us n = true) : lin l ts = lin l us := by
  unfold sameCoef at h
  simp only [Bool.and_eq_true, List.all_eq_true, decide_eq_true_eq, List.mem_range, beq_iff_eq] at h
  rw [lin_coef l n ts h.1.1, lin_coef l n us h.1.2]
  exact sumN_congr fun i hi => by rw [h.2 i hi]
theorem shap_check : ∀ n, n ≤ 5 → ∀ e, e < n → sameCoef (tI (ordersN n n) e (ordersN n n).length) (tS n e (2 ^ n)) (2 ^ n) = true := by decide +kernel
theorem shap_same (n : Nat) (hn : n ≤ 5) (l : List Int) : rowT l (ordersN n n) n (ordersN n n).length = shapL n l := by
  unfold rowT shapL
  apply List.map_congr_left
  intro e he
  rw [tot_lin, shTo_lin]
  exact lin_same l _ _ _ (shap_check n hn e (by simpa using he))
end Go.Proofs.YtpaoiiiceekkkaaGreatDoor
end
section
namespace Go.Proofs.YtpaoiiiceekkkaaGreatDoor
open Go.RowKit Go.G5

/-- the sum of the signed values of the parts of s below k -/
def massTo (l : List Int) (s : Nat) : Nat → Int
  | 0 => 0
  | k + 1 => if ndiff k s = 0 then (if pop (ndiff s k) % 2 = 1 then massTo l s k - l.getD k 0 else massTo l s k + l.getD k 0) else massTo l s k
def masses (l : List Int) : List Int := (List.range l.length).map fun s => massTo l s (s + 1)
def massesOf (n : Int) (l : List Int) : List Int := if isFunB n l then masses l else []
theorem massTo_bd (l : List Int) (s : Nat) (h : ∀ k, (hk : k < l.length) → -1000 ≤ l[k] ∧ l[k] ≤ 1000) (k : Nat) (hk : k ≤ l.length) : -1000 * (k : Int) ≤ massTo l s k ∧ massTo l s k ≤ 1000 * (k : Int) := by
  induction k with
  | zero => simp [massTo]
  | succ k ih =>
    have h1 := ih (by omega)
    have h2 := h k (by omega)
    rw [massTo, List.getD_eq_getElem?_getD, List.getElem?_eq_getElem (show k < l.length by omega), Option.getD_some]
    split
    · split <;> omega
    · omega
theorem masses_len (l : List Int) : (masses l).length = l.length := by simp [masses]
theorem masses_get (l : List Int) (s : Nat) (h : s < (masses l).length) : (masses l)[s] = massTo l s (s + 1) := by simp [masses]
theorem set_zero (l : List Int) (s n : Nat) (h : s < n) (hl : s ≤ l.length) : (l.take s ++ List.replicate (n - s) (0 : Int)).set s 0 = l.take s ++ List.replicate (n - s) 0 := by
  rw [show n - s = (n - s - 1) + 1 by omega, List.replicate_succ]
  have e : (l.take s).length = s := by simp; omega
  rw [List.set_append_right _ _ (by omega), e]
  simp
theorem mass_fill (l : List Int) (s : Nat) (h : s < l.length) : ((masses l).take s ++ List.replicate (l.length - s) (0 : Int)).set s (massTo l s (s + 1)) = (masses l).take (s + 1) ++ List.replicate (l.length - (s + 1)) 0 := by
  have := fill_step (masses l) s (by rw [masses_len]; exact h)
  simp only [masses_get, masses_len] at this
  exact this

theorem massesOf_len (n : Int) (l : List Int) (h : l.length ≤ 1048576) : (massesOf n l).length ≤ 1048576 := by
  unfold massesOf; split
  · rw [masses_len]; exact h
  · simp

theorem ndiff_zero (a b : Nat) : ndiff a b = 0 ↔ a &&& b = a := by
  have := @Nat.and_le_left a b
  unfold ndiff; omega
theorem ndiff_sub (a b : Nat) (h : b &&& a = b) : ndiff a b = a - b := by unfold ndiff; rw [Nat.and_comm, h]
theorem masses_take (l : List Int) (s : Nat) (h : s < l.length) : (masses l).take (s + 1) = (masses l).take s ++ [massTo l s (s + 1)] := by
  rw [List.take_succ_eq_append_getElem (by rw [masses_len]; exact h), masses_get]

/-! only positive masses -/
def onlyPosB (n : Int) (l : List Int) : Bool := isFunB n l && allIn ((masses l).drop 1) 0 1099511627776

theorem allIn_drop_false (m : List Int) (k : Nat) (h1 : 1 ≤ k) (h : k < m.length) (hneg : m[k] < 0) (hi : Int) : allIn (m.drop 1) 0 hi = false := by
  unfold allIn
  refine all_false_at _ _ (k - 1) (by simp; omega) ?_
  simp only [List.getElem_drop]
  have e : 1 + (k - 1) = k := by omega
  simp only [e]
  exact inB_false.2 (.inl hneg)
theorem allIn_drop_true (m : List Int) (h : ∀ k, (hk : k < m.length) → 1 ≤ k → 0 ≤ m[k] ∧ m[k] ≤ 1099511627776) : allIn (m.drop 1) 0 1099511627776 = true := by
  unfold allIn
  rw [List.all_eq_true]
  intro x hx
  obtain ⟨j, hj, rfl⟩ := List.getElem_of_mem hx
  simp only [List.getElem_drop]
  simp at hj
  exact inB_true.2 (h (1 + j) (by omega) (by omega))

end Go.Proofs.YtpaoiiiceekkkaaGreatDoor
end
section
namespace Go.Proofs.YtpaoiiiceekkkaaGreatDoor
open Go.RowKit Go.G5

def oppF (l : List Int) (s : Nat) : Int := l.getD (l.length - 1 - s) 0
def oppL (l : List Int) : List Int := madeL (oppF l) l.length
def opN (n : Int) (l : List Int) : Int := if isFunB n l then n else 0
def opL (n : Int) (l : List Int) : List Int := if isFunB n l then oppL l else []
def symB (n : Int) (l : List Int) : Bool := isFunB n l && decide (l = oppL l)
def fitB (n : Int) (l : List Int) : Bool := (subB n l && symB n l) && decide (2 ≤ n)
/-- the first least set from 1 on below k -/
def bestTo (l : List Int) : Nat → Nat
  | 0 => 1
  | k + 1 => if k < 2 then 1 else if l.getD k 0 < l.getD (bestTo l k) 0 then k else bestTo l k
def cutS (n : Int) (l : List Int) : Int := if fitB n l then (bestTo l (l.length - 1) : Int) else 0
def cutN (n : Int) (l : List Int) : Int := if fitB n l then l.getD (bestTo l (l.length - 1)) 0 else 0
theorem bestTo_two (l : List Int) : bestTo l 2 = 1 := rfl
theorem bestTo_succ (l : List Int) (k : Nat) (h : 2 ≤ k) : bestTo l (k + 1) = if l.getD k 0 < l.getD (bestTo l k) 0 then k else bestTo l k := by rw [bestTo, if_neg (by omega)]
theorem bestTo_lt (l : List Int) : ∀ k, 2 ≤ k → 1 ≤ bestTo l k ∧ bestTo l k < k := by
  intro k
  induction k with
  | zero => intro h; omega
  | succ k ih =>
    intro h
    by_cases hk : 2 ≤ k
    · have := ih hk
      rw [bestTo_succ l k hk]
      split <;> omega
    · have : k = 1 := by omega
      subst this
      rw [bestTo_two]; omega
theorem oppL_len (l : List Int) : (oppL l).length = l.length := by unfold oppL madeL; simp
theorem opL_len (n : Int) (l : List Int) (h : l.length ≤ 1048576) : (opL n l).length ≤ 1048576 := by
  unfold opL
  split
  · rw [oppL_len]; exact h
  · simp
theorem oppF_at (l : List Int) (s : Nat) (h : s < l.length) : oppF l s = l[l.length - 1 - s] := by unfold oppF; exact getD_at l _ (by omega)
theorem opp_fun (n : Int) (l : List Int) (h : isFunB n l = true) : isFunB n (oppL l) = true := by
  obtain ⟨h0, h5, hlen, hlb⟩ := funOk h
  unfold isFunB allIn
  rw [oppL_len, inB_true.2 ⟨h0, h5⟩, decide_eq_true hlen]
  simp only [Bool.true_and, List.all_eq_true]
  intro x hx
  unfold oppL madeL at hx
  obtain ⟨s, hs, rfl⟩ := List.mem_map.1 hx
  rw [List.mem_range] at hs
  rw [oppF_at l s hs]
  exact inB_true.2 (hlb _ (by omega))
theorem ndiff_full : ∀ n : Nat, n ≤ 5 → ∀ s : Nat, s < 2 ^ n → ndiff (2 ^ n - 1) s = 2 ^ n - 1 - s := by decide +kernel
end Go.Proofs.YtpaoiiiceekkkaaGreatDoor
end
section
namespace Go.Proofs.YtpaoiiiceekkkaaGreatDoor
open Go.RowKit Go.G5

set_option maxHeartbeats 1000000 in
set_option maxRecDepth 100000 in
theorem oppClosure (n : Nat) (hn : n ≤ 5) (l : List Int) (v : Value) (g s : Nat) (W : World) (hv : Ints W v l) (hl : l.length = 2 ^ n) (hs : s < 2 ^ n) (c0 : W.cell? ⟨g, 0, none⟩ = some (.int .i64 n)) (c1 : W.cell? ⟨g, 1, none⟩ = some v) :
    Calls Tryz.prog 295 #[.int .i64 s, .pointer (some ⟨g, 0, none⟩)] W fun e w' => e = .returned (.int .i64 (oppF l s)) ∧ Below W.heap.size W w' := by
  have hv0 := hv
  obtain ⟨a, b, off, c, rfl, hlen, hix, hc, hb⟩ := hv.view Tryz.prog 22 3 Tryz.underlying22 intElem
  have hf := oppF_at l s (by omega)
  have p5 : (2 : Nat) ^ n ≤ 32 := Nat.pow_le_pow_right (n := 2) (by decide) hn
  have hd := ndiff_full n hn s hs
  have hbits := bitsN (2 ^ n - 1) s (by omega) (by omega)
  rw [hd] at hbits
  have hpn := Nat.two_pow_pos n
  have hcast : ((2 ^ n - 1 : Nat) : Int) = (2 : Int) ^ n - 1 := by rw [Int.ofNat_sub hpn]; simp
  rw [hcast] at hbits
  have hck := hc (l.length - 1 - s) (by omega)
  have hixk := fun W => hix W (l.length - 1 - s) (by omega)
  rw [← hf] at hck
  rw [hl] at hck hixk
  have e0 : ∀ x : Ext W, x.w.cell? ⟨g, 0, none⟩ = some (.int .i64 n) := fun x => x.cell c0
  have e1 : ∀ x : Ext W, x.w.cell? ⟨g, 1, none⟩ = some (.slice a l.length c) := fun x => x.cell c1
  have e2 : ∀ x : Ext W, x.w.cell? ⟨b, off + (2 ^ n - 1 - s), none⟩ = some (.int .i64 (oppF l s)) := fun x => x.cell hck
  obtain ⟨q, hq⟩ : ∃ q, q = oppF l s := ⟨_, rfl⟩
  rw [← hq] at e2
  obtain ⟨m, hm⟩ : ∃ m, m = 2 ^ n - 1 - s := ⟨_, rfl⟩
  simp only [← hm] at hixk e2 hbits
  have HQ := Lib.hid hq
  have HAL := Lib.hid (fun (x : Ext W) => allOf_any (n : Int) (.slice a l.length c) l x.w (x.ints hv0) (by omega) (by omega))
  have hL : l.length = 2 ^ n := hl
  rw [← hL] at hixk
  have HLL := Lib.hid hl
  clear hc hix hb hf hd hck hq hm hcast hl hL
  go_enter Tryz.func295, Tryz.ntmps295
  go_wp2_with fail
  refine wp_region_ext _ (by kernel_rfl) (by kernel_rfl) ?_
  repeat (first | go_big_quiet_skip | (go_big_quiet_want; go_big_quiet_op; first | go_big_quiet_on | (apply Exists.intro; refine ⟨fun _ => ?_, ?_⟩; (go_at_call 119; exact ext_call (HAL.out _)); go_big_quiet_on)))
  refine wpQuiet_nil ?_
  rintro w3 ⟨⟨w3, hb3⟩, rfl⟩
  try dsimp only
  go_wp2
  go_ret
  exact ⟨ret_int HQ.out, hb3⟩
theorem oppClosure_enters : ∀ args w, (callFunc 295 args).run Tryz.prog w = .ok (.enter 295 args) w := enters_of Tryz.func295 (by kernel_rfl) rfl

set_option maxHeartbeats 1000000 in
set_option maxRecDepth 100000 in
theorem oppI_c (w : World) (n : Int) (v : Value) (l : List Int) (hv : Ints w v l) (_ : l.length ≤ 1048576) :
    Calls Tryz.prog 268 #[.agg #[.int .i64 n, v]] w fun e w' => ∃ ad i cp, e = .returned (.tuple #[.agg #[.int .i64 (opN n l), .slice ad i cp], .bool (isFunB n l)]) ∧ OwnI 3 w.heap.size w' (.slice ad i cp) (opL n l) ∧ Below w.heap.size w w' := by
  obtain ⟨a, c, rfl⟩ := hv.shape
  have hmf : ∀ (fn : Fn) (first cap : Array Value) (w : World), (Instr.makeFunc fn first cap).run Tryz.prog w = .ok (.func fn first cap) w := fun _ _ _ _ => rfl
  go_enter Tryz.func268, Tryz.ntmps268
  go_wp2_with fail
  refine calls_named ?_
  intro V hV
  have B : Below w.heap.size w V := by rw [hV]; exact bl2 _ _ _
  have K1 : Blk V w.heap.size 27 #[.int .i64 n, .slice a l.length c] := by rw [hV]; exact (Blk.new _ _ _).alloc _
  have K2 : Blk V (w.heap.size + 1) 27 #[.int .i64 0, .slice none 0 0] := by rw [hV]; have := Blk.new (w.alloc (.cells #[.int .i64 n, .slice a l.length c] 27)) 27 #[.int .i64 0, .slice none 0 0]; simpa using this
  clear hV
  refine (isFunI_any n l _ _ (hv.below B (Nat.le_refl _))).mono ?_
  rintro e w1 ⟨rfl, hb1⟩
  have K1 := K1.keep hb1
  have K2 := K2.keep hb1
  have B1 := B.after hb1 B.size
  have hv1 := hv.below B1 (Nat.le_refl _)
  clear B hb1
  have G1 := K1.cell
  have z1 := K1.lt
  have z2 := K2.lt
  cases hf : isFunB n l with
  | false =>
    have hN : opN n l = 0 := by unfold opN; rw [hf]; rfl
    have hL : opL n l = [] := by unfold opL; rw [hf]; rfl
    have HN := Lib.hid hN
    have HL := Lib.hid hL
    have HF := Lib.hid hf
    have G2 := K2.cell
    have F2 := K2.frozen
    clear hN hL
    go_wp2
    refine post_named ?_
    intro Wf hWf
    have K2f : Blk Wf (w.heap.size + 1) 27 #[.int .i64 0, .slice none 0 0] := by
      rw [hWf]
      have := (K2.set 0 (.int .i64 0)).set 1 (.slice none 0 0)
      simpa using this
    have Bf : Below w.heap.size w Wf := by rw [hWf]; exact Below.setCell (Below.setCell B1 (by first | omega | (simp; done) | (simp; omega)) _) (by first | omega | (simp; done) | (simp; omega)) _
    have Gf := K2f.cell
    clear hWf G1 G2 F2
    exact bodyPost_ret (v := .tuple #[.agg #[.int .i64 0, .slice none 0 0], .bool false]) (by simp [results, Tryz.results268, go_sem, Gf]) rfl ⟨none, 0, 0, by rw [HN.out, HF.out], by rw [HL.out]; exact OwnI.nil _ _ _, Bf⟩
  | true =>
    obtain ⟨h0, h5, hlen, hlb⟩ := funOk hf
    obtain ⟨N, rfl⟩ := Int.eq_ofNat_of_zero_le h0
    have hN5 : N ≤ 5 := by omega
    have hl2 : l.length = 2 ^ N := by
      have e2 : (N : Int).toNat = N := by omega
      rw [e2] at hlen
      exact_mod_cast hlen
    have hN : opN N l = N := by unfold opN; rw [hf]; rfl
    have hL : opL N l = oppL l := by unfold opL; rw [hf]; rfl
    have hmade : madeL (oppF l) (2 ^ N) = oppL l := by unfold oppL; rw [hl2]
    have hfo : isFunB N (madeL (oppF l) (2 ^ N)) = true := by rw [hmade]; exact opp_fun N l hf
    have hmk : ∀ W, Ints W (.slice a l.length c) l → W.cell? ⟨w.heap.size, 0, none⟩ = some (.int .i64 N) → W.cell? ⟨w.heap.size, 1, none⟩ = some (.slice a l.length c) → Calls Tryz.prog 294 #[.int .i64 N, .func (.func 295) #[] #[.pointer (some ⟨w.heap.size, 0, none⟩)]] W fun e w' =>
        ∃ ad i cp, e = .returned (.tuple #[.agg #[.int .i64 N, .slice ad i cp], .bool true]) ∧ OwnI 3 W.heap.size w' (.slice ad i cp) (oppL l) ∧ Below W.heap.size W w' := fun W hW c0 c1 => by
      have := makeFunction_any W N hN5 295 oppClosure_enters w.heap.size (oppF l) (fun s hs => by rw [oppF_at l s (by omega)]; have := hlb (l.length - 1 - s) (by omega); exact ⟨by omega, by omega⟩)
        (fun s W' hs hB => oppClosure N hN5 l _ w.heap.size s W' (hW.keep hB) hl2 hs (keep hB c0) (keep hB c1))
      rw [hfo, if_pos rfl, if_pos rfl, hmade] at this
      exact this
    have HN := Lib.hid hN
    have HL := Lib.hid hL
    have HF := Lib.hid hf
    have HMK := Lib.hid hmk
    clear hN hL hf hmade hfo hmk hl2 hlen hlb
    go_wp2_with fail
    refine (HMK.out _ hv1 (G1 0) (G1 1)).mono ?_
    rintro e w3 ⟨p3, i3, q3, rfl, o3, hb3⟩
    have K2 := K2.keep hb3
    have B3 := B1.after hb3 B1.size
    have G2 := K2.cell
    have F2 := K2.frozen
    have z3 := K2.lt
    clear G1 hb3
    go_wp2
    refine post_named ?_
    intro Wf hWf
    have K2f : Blk Wf (w.heap.size + 1) 27 #[.int .i64 N, .slice p3 i3 q3] := by
      rw [hWf]
      have := (K2.set 0 (.int .i64 N)).set 1 (.slice p3 i3 q3)
      simpa using this
    have Bf : Below w.heap.size w Wf := by rw [hWf]; exact Below.setCell (Below.setCell B3 (by first | omega | (simp; done) | (simp; omega)) _) (by first | omega | (simp; done) | (simp; omega)) _
    have of : OwnI 3 w.heap.size Wf (.slice p3 i3 q3) (oppL l) := by rw [hWf]; exact ((o3.setBelow (by first | omega | (simp; done) | (simp; omega)) _).setBelow (by first | omega | (simp; done) | (simp; omega)) _).mono (by first | omega | (simp; done) | (simp; omega))
    have Gf := K2f.cell
    clear hWf G2 F2
    exact bodyPost_ret (v := .tuple #[.agg #[.int .i64 N, .slice p3 i3 q3], .bool true]) (by simp [results, Tryz.results268, go_sem, Gf]) rfl ⟨p3, i3, q3, by rw [HN.out, HF.out], by rw [HL.out]; exact of, Bf⟩

set_option maxHeartbeats 1000000 in
theorem eqFunI_any (n n' : Int) (v v' : Value) (l l' : List Int) (w : World) (hv : Ints w v l) (hv' : Ints w v' l') :
    Calls Tryz.prog 269 #[.agg #[.int .i64 n, v], .agg #[.int .i64 n', v']] w fun e w' => e = .returned (.bool (n == n' && decide (l = l'))) ∧ Below w.heap.size w w' := by
  obtain ⟨a, c, rfl⟩ := hv.shape
  obtain ⟨a', c', rfl⟩ := hv'.shape
  cases h : (n == n') with
  | false =>
    go_enter Tryz.func269, Tryz.ntmps269
    go_wp2
    go_ret
    exact ⟨rfl, bl2 _ _ _⟩
  | true =>
    go_enter Tryz.func269, Tryz.ntmps269
    go_wp2_with (go_at_call 116; refine (slicesEqual_any _ _ l l' _ ((hv.alloc _).alloc _) ((hv'.alloc _).alloc _)).mono ?_; rintro e w2 ⟨rfl, nn, rfl⟩)
    go_ret
    exact ⟨rfl, (bl2 _ _ _).drewN' _⟩

set_option maxHeartbeats 1000000 in
set_option maxRecDepth 100000 in
theorem symI_any (n : Int) (l : List Int) (v : Value) (w : World) (hv : Ints w v l) (hl : l.length ≤ 1048576) :
    Calls Tryz.prog 238 #[.agg #[.int .i64 n, v]] w fun e w' => e = .returned (.bool (symB n l)) ∧ Below w.heap.size w w' := by
  obtain ⟨a, c, rfl⟩ := hv.shape
  have K0 := Blk.new w 27 #[.int .i64 n, .slice a l.length c]
  go_enter Tryz.func238, Tryz.ntmps238
  go_wp2_with fail
  refine (oppI_c _ n _ l (hv.alloc _) hl).mono ?_
  rintro e w1 ⟨p1, i1, q1, rfl, o1, hb1⟩
  have K1 := K0.keep hb1
  have B1 : Below w.heap.size w w1 := (bl1 _ _).after hb1 (by simp)
  have y1 := B1.size
  have z1 := K1.lt
  cases hf : isFunB n l with
  | false =>
    have hx : symB n l = false := by unfold symB; rw [hf]; rfl
    have HX := Lib.hid hx
    clear hx hf
    go_wp2
    go_ret
    exact ⟨by rw [HX.out]; rfl, (by repeat (first | exact Below.refl _ _ | (with_reducible refine Below.setCell ?_ (by first | omega | (simp; done) | (simp; omega)) _) | (with_reducible refine Below.alloc ?_ (by first | omega | (simp; done) | (simp; omega)) _) | (with_reducible refine Below.drewN' ?_ _) | (with_reducible refine Below.drew ?_) | (with_reducible assumption) | refine Below.trans ?_ (Below.mono (by assumption) (by first | omega | (simp; done) | (simp; omega)))))⟩
  | true =>
    have hx : symB n l = decide (l = oppL l) := by unfold symB; rw [hf]; rfl
    have hN : opN n l = n := by unfold opN; rw [hf]; rfl
    have hL : opL n l = oppL l := by unfold opL; rw [hf]; rfl
    rw [hL] at o1
    have heq := fun W (h1 : Ints W (.slice a l.length c) l) (h2 : Ints W (.slice p1 i1 q1) (oppL l)) => eqFunI_any n n _ _ l (oppL l) W h1 h2
    simp only [beq_self_eq_true, Bool.true_and, ← hx] at heq
    have HEQ := Lib.hid heq
    have ca : ∀ i, (w1.alloc (.cells #[.int .i64 n, .slice p1 i1 q1] 27)).cell? ⟨w.heap.size, i, none⟩ = (#[.int .i64 n, .slice a l.length c] : Array Value)[i]? := (K1.alloc _).cell
    rw [hN]
    have hv1 := hv.below B1 (Nat.le_refl _)
    clear hx hN hL heq hf
    have G1 := K1.cell
    go_wp2_with (go_at_call 269; refine (HEQ.out _ (hv1.alloc _) (o1.alloc _).ints).mono ?_; rintro e w2 ⟨rfl, hb2⟩)
    go_ret
    exact ⟨rfl, (B1.alloc B1.size _).after hb2 (B1.alloc B1.size _).size⟩

set_option maxHeartbeats 1000000 in
theorem canCut_any (n : Int) (l : List Int) (v : Value) (w : World) (hv : Ints w v l) (hl : l.length ≤ 1048576) :
    Calls Tryz.prog 174 #[.agg #[.int .i64 n, v]] w fun e w' => e = .returned (.bool (fitB n l)) ∧ Below w.heap.size w w' := by
  obtain ⟨a, c, rfl⟩ := hv.shape
  have K0 := Blk.new w 27 #[.int .i64 n, .slice a l.length c]
  go_enter Tryz.func174, Tryz.ntmps174
  go_wp2_with fail
  refine (isSubI_any n l _ _ (hv.alloc _) hl).mono ?_
  rintro e w1 ⟨rfl, hb1⟩
  have K1 := K0.keep hb1
  have B1 : Below w.heap.size w w1 := (bl1 _ _).after hb1 (by simp)
  clear hb1 K0
  cases hs : subB n l with
  | false =>
    have hx : fitB n l = false := by unfold fitB; rw [hs]; rfl
    have HX := Lib.hid hx
    clear hx hs
    go_wp2
    go_ret
    exact ⟨by rw [HX.out]; rfl, B1⟩
  | true =>
    have HS := Lib.hid hs
    clear hs
    have G1 := K1.cell
    go_wp2_with fail
    refine (symI_any n l _ _ (hv.below B1 (Nat.le_refl _)) hl).mono ?_
    rintro e w2 ⟨rfl, hb2⟩
    have K2 := K1.keep hb2
    have B2 := B1.after hb2 B1.size
    clear hb2 G1
    cases hy : symB n l with
    | false =>
      have hx : fitB n l = false := by unfold fitB; rw [HS.out, hy]; rfl
      have HX := Lib.hid hx
      clear hx hy
      go_wp2
      go_ret
      exact ⟨by rw [HX.out]; rfl, B2⟩
    | true =>
      have hx : fitB n l = decide (2 ≤ n) := by unfold fitB; rw [HS.out, hy]; rfl
      have HX := Lib.hid hx
      clear hx hy
      have G2 := K2.cell
      go_wp2
      go_ret
      exact ⟨by rw [HX.out]; rfl, B2⟩
end Go.Proofs.YtpaoiiiceekkkaaGreatDoor
end
section
namespace Go.Proofs.YtpaoiiiceekkkaaGreatDoor
open Go.RowKit Go.G5

theorem fit_fun {n : Int} {l : List Int} (h : fitB n l = true) : isFunB n l = true ∧ 2 ≤ n := by
  unfold fitB subB at h
  simp only [Bool.and_eq_true, decide_eq_true_eq] at h
  exact ⟨h.1.1.1, h.2⟩
theorem fit_size {n : Int} {l : List Int} (h : fitB n l = true) : 4 ≤ l.length ∧ l.length ≤ 32 ∧ (l.length : Int) = 2 ^ n.toNat ∧ n ≤ 5 ∧ ∀ k, (hk : k < l.length) → -1000 ≤ l[k] ∧ l[k] ≤ 1000 := by
  obtain ⟨h1, h2⟩ := fit_fun h
  obtain ⟨h0, h5, hlen, hlb⟩ := funOk h1
  obtain ⟨m, hm⟩ : ∃ m : Nat, n.toNat = m := ⟨_, rfl⟩
  have hm2 : 2 ≤ m ∧ m ≤ 5 := by omega
  have hp4 : (2 : Nat) ^ 2 ≤ 2 ^ m := Nat.pow_le_pow_right (by decide) hm2.1
  have hp5 : (2 : Nat) ^ m ≤ 2 ^ 5 := Nat.pow_le_pow_right (by decide) hm2.2
  have hln : l.length = 2 ^ m := by rw [hm] at hlen; exact_mod_cast hlen
  exact ⟨by omega, by omega, hlen, h5, hlb⟩

set_option maxHeartbeats 2000000 in
set_option maxRecDepth 100000 in
theorem minCutI_c (w : World) (n : Int) (v : Value) (l : List Int) (hv : Ints w v l) (hl : l.length ≤ 1048576) :
    Calls Tryz.prog 75 #[.agg #[.int .i64 n, v]] w fun e w' => e = .returned (.tuple #[.int .i64 (cutN n l), .int .i64 (cutS n l), .bool (fitB n l)]) ∧ Below w.heap.size w w' := by
  have hv0 := hv
  obtain ⟨a, b, off, c, rfl, hlen, hix, hc, hb⟩ := hv.view Tryz.prog 22 3 Tryz.underlying22 intElem
  have K0 := Blk.new w 27 #[.int .i64 n, .slice a l.length c]
  cases hf : fitB n l with
  | false =>
    have hN : cutN n l = 0 := by unfold cutN; rw [hf]; rfl
    have hS : cutS n l = 0 := by unfold cutS; rw [hf]; rfl
    have H := Lib.hid (And.intro hN hS)
    have HF := Lib.hid hf
    clear hN hS hf hc
    go_enter Tryz.func75, Tryz.ntmps75
    go_wp2_with (go_at_call 174; refine (canCut_any n l _ _ (hv0.alloc _) hl).mono ?_; rintro e w1 ⟨rfl, hb1⟩; rw [HF.out])
    go_ret3
    exact ⟨by rw [H.out.1, H.out.2]; rfl, (bl1 _ _).after hb1 (by simp)⟩
  | true =>
    obtain ⟨h4, h32, hpow, hn5, hlb⟩ := fit_size hf
    have hn0 : 0 ≤ n := by have := (fit_fun hf).2; omega
    have hN : cutN n l = l.getD (bestTo l (l.length - 1)) 0 := by unfold cutN; rw [hf]; rfl
    have hS : cutS n l = (bestTo l (l.length - 1) : Int) := by unfold cutS; rw [hf]; rfl
    have H := Lib.hid (And.intro hN hS)
    have HF := Lib.hid hf
    have HLB := Lib.hid hlb
    have HC := Lib.hid hc
    have HIX := Lib.hid hix
    have HPW := Lib.hid hpow
    have HAL := Lib.hid (fun (W : World) (hW : Ints W (.slice a l.length c) l) => allOf_any n (.slice a l.length c) l W hW hn0 (by omega))
    clear hN hS hf hlb hc hix hpow
    go_enter Tryz.func75, Tryz.ntmps75
    go_wp2_with fail
    refine (canCut_any n l _ _ (hv0.alloc _) hl).mono ?_
    rintro e w1 ⟨rfl, hb1⟩
    rw [HF.out]
    have K1 := K0.keep hb1
    have B1 : Below w.heap.size w w1 := (bl1 _ _).after hb1 (by simp)
    clear K0 hb1
    go_wp2_with fail
    go_loopw [5, 6] (fun bst i wr => ∃ k : Nat, 2 ≤ k ∧ k ≤ l.length - 1 ∧ i = .int .i64 k ∧ bst = .int .i64 (bestTo l k : Int) ∧ Below w.heap.size w wr ∧ Blk wr w.heap.size 27 #[.int .i64 n, .slice a l.length c]) (fun _ i _ => l.length - (intOf i).toNat)
    case atStart => exact ⟨2, by omega, by omega, rfl, rfl, B1, K1⟩
    case round =>
      obtain ⟨k, hk2, hk, rfl, rfl, B, K⟩ := hrel
      have G1 := K.cell
      have hbk := bestTo_lt l k hk2
      obtain ⟨p, hp⟩ : ∃ p, p = bestTo l k := ⟨_, rfl⟩
      rw [← hp] at hbk ⊢
      have cp := HC.out p (by omega)
      have cp2 := cells_below HC.out hb B (Nat.le_refl _) p (by omega)
      have ip := fun W => HIX.out W p (by omega)
      by_cases hlt : k < l.length - 1
      · have hst := bestTo_succ l k hk2
        rw [← hp, getD_at l k (by omega), getD_at l p (by omega)] at hst
        have ck := cells_below HC.out hb B (Nat.le_refl _) k (by omega)
        have ik := fun W => HIX.out W k (by omega)
        obtain ⟨x, hx⟩ : ∃ x, x = l[k] := ⟨_, rfl⟩
        obtain ⟨y, hy⟩ : ∃ x, x = l[p] := ⟨_, rfl⟩
        rw [← hx] at ck hst
        rw [← hy] at cp2 hst
        have hlt2 : (k : Int) < 2 ^ n.toNat - 1 := by rw [← HPW.out]; omega
        have HST := Lib.hid hst
        clear hst hp hx hy cp
        go_wp2_with fail
        refine (HAL.out _ (hv0.below B (Nat.le_refl _))).mono ?_
        rintro e w3 ⟨rfl, hb3⟩
        have B3 := B.after hb3 B.size
        have K3 := K.keep hb3
        have ck := keep hb3 ck
        have cp2 := keep hb3 cp2
        clear G1 hb3
        have G3 := K3.cell
        by_cases hxy : x < y
        · have HS2 := Lib.hid (HST.out.trans (if_pos hxy))
          go_wp2_with fail
          go_quiet (fail)
          go_wp2
          go_roundw
          case rel => exact ⟨k + 1, by omega, by omega, by go_num, by rw [HS2.out], B3.drewN' _, K3.drewN _⟩
          case measure => simp [intOf]; omega
        · have HS2 := Lib.hid (HST.out.trans (if_neg hxy))
          go_wp2_with fail
          go_quiet (fail)
          go_wp2
          go_roundw
          case rel => exact ⟨k + 1, by omega, by omega, by go_num, by rw [HS2.out], B3.drewN' _, K3.drewN _⟩
          case measure => simp [intOf]; omega
      · have hkl : k = l.length - 1 := by omega
        have hlt2 : ¬ (k : Int) < 2 ^ n.toNat - 1 := by rw [← HPW.out]; omega
        have hg : l.getD p 0 = l[p] := getD_at l p (by omega)
        obtain ⟨y, hy⟩ : ∃ x, x = l[p] := ⟨_, rfl⟩
        rw [← hy] at cp2 hg
        have HP := Lib.hid hp
        have HG := Lib.hid hg
        have HKL := Lib.hid hkl
        clear hp hg hkl hy cp
        go_wp2_with fail
        refine (HAL.out _ (hv0.below B (Nat.le_refl _))).mono ?_
        rintro e w3 ⟨rfl, hb3⟩
        have B3 := B.after hb3 B.size
        have K3 := K.keep hb3
        have cp2 := keep hb3 cp2
        clear G1 hb3
        have G3 := K3.cell
        go_wp2
        go_ret3
        exact ⟨by rw [H.out.1, H.out.2, ← HKL.out, ← HP.out, HG.out]; rfl, B3⟩
end Go.Proofs.YtpaoiiiceekkkaaGreatDoor
end
