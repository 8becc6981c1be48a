/- The line of covers: what is computed. Common independent sets and what bounds them: what is computed. Common independent sets: whether two functions are ranks of matroids alike; sets that are free. Vectors. The order of a vector's elements by descending numbers: the plain list. Sums of products. The order of a vector's elements: the second program. The gains along an order: the second program. -/
import Derived.Test.YtpaoiiiceekkkaaDoorQ30
import Derived.Shelf.Abstract
import Derived.Deep.RegionHeld3
import Derived.Deep.AppendLies
section
namespace Go.Proofs.YtpaoiiiceekkkaaDoor
open Go.RowKit Go.G5

/-- the parts behind the first ones, each with a space ahead -/
def tailB : List ByteArray → ByteArray
  | [] => ByteArray.empty
  | y :: r => space ++ y ++ tailB r
theorem tailB_data : ∀ r : List ByteArray, (tailB r).data.toList = Lib.joinTail [32] (r.map (·.data.toList))
  | [] => rfl
  | y :: r => by
    rw [tailB, ba_app, ba_app, tailB_data r]
    simp [Lib.joinTail, d1]
theorem join_app (xs ys : List ByteArray) (h : xs ≠ []) : joinB space (xs ++ ys) = joinB space xs ++ tailB ys := by
  cases xs with
  | nil => exact absurd rfl h
  | cons x r =>
    refine ba_ext ?_
    rw [ba_app, tailB_data]
    show Lib.join ((x :: (r ++ ys)).map (·.data.toList)) space.data.toList = Lib.join ((x :: r).map (·.data.toList)) space.data.toList ++ _
    rw [List.map_cons, List.map_cons, Lib.join_cons, Lib.join_cons, List.map_append, joinTail_app, d1]
    simp [List.append_assoc]
def covA (N A : ByteArray) : List ByteArray := [(⟨#[99, 111, 118, 101, 114]⟩ : ByteArray), (⟨#[112, 97, 99, 107, 105, 110, 103]⟩ : ByteArray), N, (⟨#[111, 102]⟩ : ByteArray), A]
def covAT (N A : ByteArray) : ByteArray := (⟨#[99, 111, 118, 101, 114, 32, 112, 97, 99, 107, 105, 110, 103, 32]⟩ : ByteArray) ++ N ++ (⟨#[32, 111, 102, 32]⟩ : ByteArray) ++ A
theorem covA_is (N A : ByteArray) : joinB space (covA N A) = covAT N A := by
  unfold covA covAT
  simp only [joinB_cons2, joinB_one]
  refine ba_ext ?_
  simp [space]
def covB (b : Bool) (N S : ByteArray) : List ByteArray := if b then [(⟨#[116, 114, 97, 110, 115, 118, 101, 114, 115, 97, 108]⟩ : ByteArray), N, (⟨#[98, 121]⟩ : ByteArray), S] else []
def covBT (b : Bool) (X N S : ByteArray) : ByteArray := if b then X ++ (⟨#[32, 116, 114, 97, 110, 115, 118, 101, 114, 115, 97, 108, 32]⟩ : ByteArray) ++ N ++ (⟨#[32, 98, 121, 32]⟩ : ByteArray) ++ S else X
theorem covB_is (b : Bool) (X N S : ByteArray) : X ++ tailB (covB b N S) = covBT b X N S := by
  cases b with
  | false => exact ba_ext (by rw [ba_app]; show X.data.toList ++ [] = X.data.toList; simp)
  | true =>
    refine ba_ext ?_
    simp [covB, covBT, tailB, space]
def covC (b : Bool) (N M P : ByteArray) : List ByteArray := if b then [(⟨#[115, 109, 97, 108, 108, 101, 115, 116]⟩ : ByteArray), N, (⟨#[103, 114, 101, 101, 100, 121]⟩ : ByteArray), M, (⟨#[112, 114, 105, 99, 101, 115]⟩ : ByteArray), P] else []
def covCT (b : Bool) (X N M P : ByteArray) : ByteArray := if b then X ++ (⟨#[32, 115, 109, 97, 108, 108, 101, 115, 116, 32]⟩ : ByteArray) ++ N ++ (⟨#[32, 103, 114, 101, 101, 100, 121, 32]⟩ : ByteArray) ++ M ++ (⟨#[32, 112, 114, 105, 99, 101, 115, 32]⟩ : ByteArray) ++ P else X
theorem covC_is (b : Bool) (X N M P : ByteArray) : X ++ tailB (covC b N M P) = covCT b X N M P := by
  cases b with
  | false => exact ba_ext (by rw [ba_app]; show X.data.toList ++ [] = X.data.toList; simp)
  | true =>
    refine ba_ext ?_
    simp [covC, covCT, tailB, space]
def covL (g : Int) (l : List Int) : List ByteArray := (covA (itoaB ((pkL g l).length : Int)) (famTx g (pkL g l)) ++ covB (tnOk g l) (itoaB (tnN g l)) (setTx g (tnS g l))) ++ covC (smallB g l) (itoaB ((smallL g l).length : Int)) (itoaB ((greedyL g l).length : Int)) (numB (pricesL g l))
def covT (g : Int) (l : List Int) : ByteArray := covCT (smallB g l) (covBT (tnOk g l) (covAT (itoaB ((pkL g l).length : Int)) (famTx g (pkL g l))) (itoaB (tnN g l)) (setTx g (tnS g l))) (itoaB ((smallL g l).length : Int)) (itoaB ((greedyL g l).length : Int)) (numB (pricesL g l))
theorem cov_is (g : Int) (l : List Int) : joinB space (covL g l) = covT g l := by
  unfold covL covT
  rw [join_app _ _ (by simp [covA]), join_app _ _ (by simp [covA]), covA_is, covB_is, covC_is]
def covLn (g : Int) (l : List Int) : ByteArray := if isFamB g l then covT g l else ByteArray.empty
theorem covLn_yes {g : Int} {l : List Int} (h : isFamB g l = true) : covLn g l = covT g l := by unfold covLn; rw [if_pos h]
theorem covLn_no {g : Int} {l : List Int} (h : isFamB g l = false) : covLn g l = ByteArray.empty := by unfold covLn; rw [h]; rfl
theorem pricesL_6 (g : Int) (l : List Int) : (pricesL g l).length ≤ 6 := by
  unfold pricesL
  split
  · rename_i h
    rw [prTo_len]
    unfold greedyB greedyOf at h
    split at h
    · rename_i hf
      obtain ⟨h0, h6, _⟩ := famOk hf
      omega
    · simp at h
  · simp
theorem covAT_size (N A : ByteArray) (hN : N.size ≤ 21) (hA : A.size ≤ 10000) : (covAT N A).size ≤ 10100 := by
  unfold covAT
  simp only [ByteArray.size_append]
  have e1 : (⟨#[99, 111, 118, 101, 114, 32, 112, 97, 99, 107, 105, 110, 103, 32]⟩ : ByteArray).size = 14 := rfl
  have e2 : (⟨#[32, 111, 102, 32]⟩ : ByteArray).size = 4 := rfl
  omega
theorem covBT_size (b : Bool) (X N S : ByteArray) (hX : X.size ≤ 10100) (hN : N.size ≤ 21) (hS : S.size ≤ 132) : (covBT b X N S).size ≤ 10300 := by
  cases b with
  | false => show X.size ≤ _; omega
  | true =>
    unfold covBT
    rw [if_pos rfl]
    simp only [ByteArray.size_append]
    have e1 : (⟨#[32, 116, 114, 97, 110, 115, 118, 101, 114, 115, 97, 108, 32]⟩ : ByteArray).size = 13 := rfl
    have e2 : (⟨#[32, 98, 121, 32]⟩ : ByteArray).size = 4 := rfl
    omega
theorem covCT_size (b : Bool) (X N M P : ByteArray) (hX : X.size ≤ 10300) (hN : N.size ≤ 21) (hM : M.size ≤ 21) (hP : P.size ≤ 200) : (covCT b X N M P).size ≤ 11000 := by
  cases b with
  | false => show X.size ≤ _; omega
  | true =>
    unfold covCT
    rw [if_pos rfl]
    simp only [ByteArray.size_append]
    have e1 : (⟨#[32, 115, 109, 97, 108, 108, 101, 115, 116, 32]⟩ : ByteArray).size = 10 := rfl
    have e2 : (⟨#[32, 103, 114, 101, 101, 100, 121, 32]⟩ : ByteArray).size = 8 := rfl
    have e3 : (⟨#[32, 112, 114, 105, 99, 101, 115, 32]⟩ : ByteArray).size = 8 := rfl
    omega
theorem pkL_64 (g : Int) (l : List Int) : (pkL g l).length ≤ 64 := by
  unfold pkL
  split
  · rename_i hf
    exact packS_len 64 l 0 [] [] (by simpa using fam_len hf) (by simp)
  · simp
theorem covT_size (g : Int) (l : List Int) (h : smallB g l = true → ∀ x ∈ pricesL g l, InR x) : (covT g l).size ≤ 11000 := by
  have h1 := pkL_64 g l
  have h2 := itoaB_size ((pkL g l).length : Int) ⟨by omega, by omega⟩
  have h3 := famTx_size g (pkL g l)
  have h4 := tnN_bd g l
  have h5 := itoaB_size (tnN g l) ⟨by omega, by omega⟩
  have h6 := setTx_size g (tnS g l)
  have h7 := covAT_size _ _ h2 h3
  have h8 := covBT_size (tnOk g l) _ _ _ h7 h5 h6
  unfold covT
  cases hb : smallB g l with
  | false => exact Nat.le_trans h8 (by decide)
  | true =>
    have h9 := smallL_len g l
    have ha := greedyL_64 g l
    have hc := numB_size _ (h hb)
    have hd := pricesL_6 g l
    exact covCT_size _ _ _ _ _ h8 (itoaB_size _ ⟨by omega, by omega⟩) (itoaB_size _ ⟨by omega, by omega⟩) (by omega)
end Go.Proofs.YtpaoiiiceekkkaaDoor
end
section
namespace Go.Proofs.YtpaoiiiceekkkaaDoor
open Go.RowKit Go.G5

def comB (n : Int) (l : List Int) (m : Int) (k : List Int) : Bool := (rankB n l && rankB m k) && decide (n = m)
def freeB (l : List Int) (s : Nat) : Bool := decide (l.getD s 0 = (pop s : Int))
/-- the first of the largest common sets below t -/
def lcTo (l k : List Int) : Nat → Nat
  | 0 => 0
  | t + 1 => if decide (pop (lcTo l k t) < pop t) && (freeB l t && freeB k t) then t else lcTo l k t
def sumT (l k : List Int) (t : Nat) : Int := l.getD t 0 + k.getD (l.length - 1 - t) 0
/-- the first set below t with the least sum -/
def spTo (l k : List Int) : Nat → Nat
  | 0 => 0
  | t + 1 => if sumT l k t < sumT l k (spTo l k t) then t else spTo l k t
def lcS (n : Int) (l : List Int) (m : Int) (k : List Int) : Int := if comB n l m k then (lcTo l k l.length : Int) else 0
def cbS (n : Int) (l : List Int) (m : Int) (k : List Int) : Int := if comB n l m k then (spTo l k l.length : Int) else 0
def cbN (n : Int) (l : List Int) (m : Int) (k : List Int) : Int := if comB n l m k then sumT l k (spTo l k l.length) else 0
theorem lcTo_lt (l k : List Int) : ∀ t, 0 < t → lcTo l k t < t := by
  intro t
  induction t with
  | zero => intro h; omega
  | succ t ih =>
    intro _
    rw [lcTo]
    split
    · omega
    · rcases Nat.eq_zero_or_pos t with rfl | h
      · simp [lcTo]
      · have := ih h; omega
theorem spTo_lt (l k : List Int) : ∀ t, 0 < t → spTo l k t < t := by
  intro t
  induction t with
  | zero => intro h; omega
  | succ t ih =>
    intro _
    rw [spTo]
    split
    · omega
    · rcases Nat.eq_zero_or_pos t with rfl | h
      · simp [spTo]
      · have := ih h; omega
theorem lcTo_one (l k : List Int) : lcTo l k 1 = 0 := by
  have := lcTo_lt l k 1 (by omega); omega
theorem spTo_one (l k : List Int) : spTo l k 1 = 0 := by
  have := spTo_lt l k 1 (by omega); omega
theorem com_fun {n m : Int} {l k : List Int} (h : comB n l m k = true) : m = n ∧ ∃ N : Nat, n = N ∧ N ≤ 5 ∧ l.length = 2 ^ N ∧ l.length ≤ 32 ∧ k.length = l.length ∧ (∀ i, (hi : i < l.length) → -1000 ≤ l[i] ∧ l[i] ≤ 1000) ∧ (∀ i, (hi : i < k.length) → -1000 ≤ k[i] ∧ k[i] ≤ 1000) := by
  unfold comB rankB at h
  simp only [Bool.and_eq_true, decide_eq_true_eq] at h
  obtain ⟨⟨⟨h1, _⟩, h2, _⟩, rfl⟩ := h
  obtain ⟨N, rfl, hN5, hl2, hl32, hlb⟩ := fun_nat (poly_fun h1)
  obtain ⟨M, hM, hM5, hk2, hk32, hkb⟩ := fun_nat (poly_fun h2)
  have : N = M := by omega
  subst this
  exact ⟨rfl, N, rfl, hN5, hl2, hl32, by omega, hlb, hkb⟩
end Go.Proofs.YtpaoiiiceekkkaaDoor
end
section
namespace Go.Proofs.YtpaoiiiceekkkaaDoor
open Go.RowKit Go.G5

theorem beq_dec (a b : Int) : (a == b) = decide (a = b) := by by_cases h : a = b <;> simp [h]
set_option maxHeartbeats 1000000 in
set_option maxRecDepth 100000 in
theorem isFree_any (w : World) (n : Int) (v : Value) (l : List Int) (hv : Ints w v l) (s : Nat) (hs : s < l.length) (hs2 : s < 64) :
    Calls Tryd.prog 151 #[.agg #[.int .i64 n, v], .int .i64 s] w fun e w' => e = .returned (.bool (freeB l s)) ∧ Below w.heap.size w w' := by
  have hv0 := hv
  obtain ⟨a, b, off, c, rfl, hlen, hix, hc, hb⟩ := hv.view Tryd.prog 22 3 Tryd.underlying22 intElem
  obtain ⟨V, hV⟩ : ∃ V, V = w.alloc (.cells #[.int .i64 n, .slice a l.length c] 31) := ⟨_, rfl⟩
  have B : Below w.heap.size w V := by rw [hV]; exact bl1 _ _
  have K1 : Blk V w.heap.size 31 #[.int .i64 n, .slice a l.length c] := by rw [hV]; exact Blk.new _ _ _
  have ck := cells_below hc hb B (Nat.le_refl _) s hs
  have ik := fun W => hix W s hs
  have hg : l.getD s 0 = l[s] := getD_at l s hs
  have hfr : freeB l s = decide (l[s] = (pop s : Int)) := by unfold freeB; rw [hg]
  obtain ⟨x, hx⟩ : ∃ x, x = l[s] := ⟨_, rfl⟩
  rw [← hx] at ck hfr
  have HFR := Lib.hid hfr
  have HS := Lib.hid (fun W => sizeOf_any s W (by omega))
  have e1 : ∀ y : Ext V, y.w.cell? ⟨w.heap.size, 1, none⟩ = some (.slice a l.length c) := fun y => y.cell (K1.cell 1)
  have e2 : ∀ y : Ext V, y.w.cell? ⟨b, off + s, none⟩ = some (.int .i64 x) := fun y => y.cell ck
  clear hc hix hb hg hfr hx ck
  go_enter Tryd.func151, Tryd.ntmps151
  go_wp2_with fail
  rw [← hV]
  clear hV
  refine wp_region_ext _ (by kernel_rfl) (by kernel_rfl) ?_
  repeat (first | go_big_quiet_skip | (go_big_quiet_want; go_big_quiet_op; first | go_big_quiet_on | (apply Exists.intro; refine ⟨fun _ => ?_, ?_⟩; (go_at_call 128; exact ext_same (HS.out _)); go_big_quiet_on)))
  refine wpQuiet_nil ?_
  rintro w3 ⟨⟨w3, hb3⟩, rfl⟩
  try dsimp only
  go_wp2
  go_ret
  exact ⟨ret_bool (by rw [HFR.out]; exact beq_dec _ _), B.after hb3 B.size⟩
end Go.Proofs.YtpaoiiiceekkkaaDoor
end
section
namespace Go.Proofs.YtpaoiiiceekkkaaDoor
open Go.RowKit Go.G5

def vecB (x : List Int) : Bool := decide (x.length ≤ 5) && allIn x (-1000) 1000
def optB (n : Int) (l x : List Int) : Bool := (isGrB n l && subB n l) && (vecB x && decide ((x.length : Int) = n))
end Go.Proofs.YtpaoiiiceekkkaaDoor
end
section
namespace Go.Proofs.YtpaoiiiceekkkaaDoor
open Go.RowKit Go.G5

def scanO (x o : List Int) (y : Int) : Nat → Nat
  | 0 => 0
  | k + 1 => if x.getD (o.getD k 0).toNat 0 < y then scanO x o y k else k + 1
def insO (o : List Int) (e : Int) (k : Nat) : List Int := (o.take k ++ [e]) ++ o.drop k
def ordN (x : List Int) : Nat → List Int
  | 0 => []
  | i + 1 => insO (ordN x i) i (scanO x (ordN x i) (x.getD i 0) i)
def restL (i n : Nat) : List Int := (List.range' i (n - i)).map fun (t : Nat) => (t : Int)
theorem scanO_le (x o : List Int) (y : Int) : ∀ k, scanO x o y k ≤ k := by
  intro k
  induction k with
  | zero => exact Nat.le_refl _
  | succ k ih => rw [scanO]; split <;> omega
theorem insO_len (o : List Int) (e : Int) (k : Nat) (hk : k ≤ o.length) : (insO o e k).length = o.length + 1 := by
  unfold insO
  simp
  omega
theorem ordN_len (x : List Int) : ∀ i, (ordN x i).length = i := by
  intro i
  induction i with
  | zero => rfl
  | succ i ih =>
    have h := scanO_le x (ordN x i) (x.getD i 0) i
    rw [ordN, insO_len _ _ _ (by omega), ih]
theorem insO_mem (o : List Int) (e y : Int) (k : Nat) (h : y ∈ insO o e k) : y ∈ o ∨ y = e := by
  unfold insO at h
  rcases List.mem_append.1 h with h | h
  · rcases List.mem_append.1 h with h | h
    · exact .inl (List.mem_of_mem_take h)
    · exact .inr (List.mem_singleton.1 h)
  · exact .inl (List.mem_of_mem_drop h)
theorem ordN_mem (x : List Int) : ∀ i, ∀ e ∈ ordN x i, 0 ≤ e ∧ e < i := by
  intro i
  induction i with
  | zero => intro e h; simp [ordN] at h
  | succ i ih =>
    intro e h
    rcases insO_mem _ _ _ _ h with h | h
    · have := ih e h; omega
    · subst h; omega
theorem restL_len (i n : Nat) : (restL i n).length = n - i := by unfold restL; simp
theorem restL_cons (i n : Nat) (h : i < n) : restL i n = (i : Int) :: restL (i + 1) n := by
  unfold restL
  rw [show n - i = (n - (i + 1)) + 1 by omega, List.range'_succ]
  rfl
theorem restL_mem (i n : Nat) : ∀ e ∈ restL i n, 0 ≤ e ∧ e < n := by
  intro e h
  unfold restL at h
  obtain ⟨t, ht, rfl⟩ := List.mem_map.1 h
  have := List.mem_range'.1 ht
  omega
theorem restL_at (n k : Nat) (h : k < (restL 0 n).length) : (restL 0 n)[k] = (k : Int) := by
  unfold restL
  simp
theorem insO_end (o r : List Int) (e : Int) : insO o e o.length ++ r = o ++ e :: r := by
  unfold insO
  simp
theorem insO_at (o r : List Int) (e : Int) (k : Nat) (hk : k ≤ o.length) : (insO o e k ++ r)[k]? = some e := by
  unfold insO
  have h1 : (o.take k).length = k := by rw [List.length_take]; omega
  rw [List.append_assoc, List.append_assoc, List.getElem?_append_right (by omega), h1]
  simp
theorem insO_before (o r : List Int) (e : Int) (k : Nat) (hk : k + 1 ≤ o.length) : (insO o e (k + 1) ++ r)[k]? = some (o[k]'(by omega)) := by
  unfold insO
  have h1 : (o.take (k + 1)).length = k + 1 := by rw [List.length_take]; omega
  rw [List.append_assoc, List.append_assoc, List.getElem?_append_left (by omega), List.getElem?_take, if_pos (by omega), List.getElem?_eq_getElem (by omega)]
theorem insO_swap (o r : List Int) (e : Int) (k : Nat) (hk : k + 1 ≤ o.length) : ((insO o e (k + 1) ++ r).set (k + 1) (o[k]'(by omega))).set k e = insO o e k ++ r := by
  obtain ⟨p, q, t, rfl, hp⟩ : ∃ p q t, o = p ++ q :: t ∧ p.length = k := ⟨o.take k, o[k]'(by omega), o.drop (k + 1), by rw [List.getElem_cons_drop, List.take_append_drop], by rw [List.length_take]; omega⟩
  subst hp
  have h1 : (p ++ q :: t).take (p.length + 1) = p ++ [q] := by rw [List.take_append]; simp [List.take_of_length_le]
  have h2 : (p ++ q :: t).drop (p.length + 1) = t := by rw [List.drop_append]; simp
  have h3 : (p ++ q :: t).take p.length = p := by simp
  have h4 : (p ++ q :: t).drop p.length = q :: t := by simp
  have h5 : (p ++ q :: t)[p.length]'(by simp) = q := by simp
  unfold insO
  rw [h1, h2, h3, h4, h5]
  simp
theorem ordN_at (x : List Int) (i k : Nat) (hk : k < i) : ∃ e : Nat, e < i ∧ (ordN x i)[k]? = some (e : Int) := by
  have h : k < (ordN x i).length := by rw [ordN_len]; exact hk
  have hm := ordN_mem x i _ (List.getElem_mem h)
  refine ⟨((ordN x i)[k]).toNat, by omega, ?_⟩
  rw [List.getElem?_eq_getElem h, show (((ordN x i)[k].toNat : Nat) : Int) = (ordN x i)[k] by omega]
/-- the row in a round of the insertion sort -/
def datO (x : List Int) (n i : Nat) : List Int := ordN x (min i n) ++ restL (min i n) n
theorem datO_len (x : List Int) (n i : Nat) : (datO x n i).length = n := by
  unfold datO
  rw [List.length_append, ordN_len, restL_len]
  omega
theorem datO_start (x : List Int) (n : Nat) : datO x n 1 = restL 0 n := by
  unfold datO
  cases n with
  | zero => rfl
  | succ n =>
    rw [show min 1 (n + 1) = 1 by omega, restL_cons 0 (n + 1) (by omega)]
    rfl
theorem datO_end (x : List Int) (n i : Nat) (h : n ≤ i) : datO x n i = ordN x n := by
  unfold datO
  rw [Nat.min_eq_right h]
  unfold restL
  simp
theorem datO_in (x : List Int) (n i : Nat) (h : i < n) : datO x n i = insO (ordN x i) i i ++ restL (i + 1) n := by
  unfold datO
  rw [Nat.min_eq_left (Nat.le_of_lt h), restL_cons i n h]
  have := insO_end (ordN x i) (restL (i + 1) n) i
  rw [ordN_len] at this
  exact this.symm
theorem datO_next (x : List Int) (n i : Nat) (h : i < n) : datO x n (i + 1) = insO (ordN x i) i (scanO x (ordN x i) (x.getD i 0) i) ++ restL (i + 1) n := by
  unfold datO
  rw [Nat.min_eq_left (by omega)]
  rfl

end Go.Proofs.YtpaoiiiceekkkaaDoor
end
section
namespace Go.Proofs.YtpaoiiiceekkkaaDoor
open Go.RowKit Go.G5

def prodTo (x y : List Int) : Nat → Int
  | 0 => 0
  | k + 1 => prodTo x y k + x.getD k 0 * y.getD k 0
theorem mul_bd (p q : Int) (hp : -1000 ≤ p ∧ p ≤ 1000) (hq : -2000 ≤ q ∧ q ≤ 2000) : -2000000 ≤ p * q ∧ p * q ≤ 2000000 := by
  have h1 : (p * q).natAbs ≤ 1000 * 2000 := by
    rw [Int.natAbs_mul]
    exact Nat.mul_le_mul (by omega) (by omega)
  omega
theorem prodTo_bd (x y : List Int) (hl : y.length = x.length) (hx : ∀ k, (hk : k < x.length) → -1000 ≤ x[k] ∧ x[k] ≤ 1000) (hy : ∀ k, (hk : k < y.length) → -2000 ≤ y[k] ∧ y[k] ≤ 2000) : ∀ k, k ≤ x.length → -2000000 * (k : Int) ≤ prodTo x y k ∧ prodTo x y k ≤ 2000000 * (k : Int) := by
  intro k
  induction k with
  | zero => intro _; simp [prodTo]
  | succ k ih =>
    intro hk
    have h1 := ih (by omega)
    have h2 := mul_bd _ _ (hx k (by omega)) (hy k (by omega))
    rw [prodTo, getD_at x k (by omega), getD_at y k (by omega)]
    push_cast
    omega
end Go.Proofs.YtpaoiiiceekkkaaDoor
end
section
namespace Go.Proofs.YtpaoiiiceekkkaaDoor
open Go.RowKit Go.G5

def ordL (x : List Int) : List Int := if vecB x then ordN x x.length else []
end Go.Proofs.YtpaoiiiceekkkaaDoor
end
section
namespace Go.Proofs.YtpaoiiiceekkkaaDoor
open Go.RowKit Go.G5

def mxX (l x : List Int) : List Int := cornerL l (ordN x x.length)
def maxN (n : Int) (l x : List Int) : Int := if optB n l x then prodTo x (mxX l x) x.length else 0
def maxL (n : Int) (l x : List Int) : List Int := if optB n l x then mxX l x else []
theorem opt_fun {n : Int} {l x : List Int} (h : optB n l x = true) : x.length ≤ 5 ∧ n = (x.length : Int) ∧ l.length = 2 ^ x.length ∧ l.length ≤ 32 ∧ (∀ k, (hk : k < l.length) → -1000 ≤ l[k] ∧ l[k] ≤ 1000) ∧ (∀ y ∈ x, -1000 ≤ y ∧ y ≤ 1000) := by
  unfold optB vecB at h
  simp only [Bool.and_eq_true, decide_eq_true_eq] at h
  obtain ⟨⟨h1, _⟩, ⟨h2, h3⟩, h4⟩ := h
  obtain ⟨N, rfl, hN5, hl2, hl32, hlb⟩ := fun_nat (grOk h1)
  have : x.length = N := by omega
  unfold allIn at h3
  rw [List.all_eq_true] at h3
  exact ⟨h2, h4.symm, by rw [this]; exact hl2, hl32, hlb, fun y hy => inB_true.1 (h3 y hy)⟩
theorem cornerTo_bd (l o : List Int) (hl : l.length = 2 ^ o.length) (hlb : ∀ k, (hk : k < l.length) → -1000 ≤ l[k] ∧ l[k] ≤ 1000) (ho : ∀ x ∈ o, 0 ≤ x ∧ x < o.length) : ∀ k, k ≤ o.length → ∀ y ∈ cornerTo l o k, -2000 ≤ y ∧ y ≤ 2000 := by
  intro k
  induction k with
  | zero =>
    intro _ y hy
    rw [cornerTo] at hy
    have := List.eq_of_mem_replicate hy
    omega
  | succ k ih =>
    intro hk y hy
    rw [cornerTo] at hy
    rcases List.mem_or_eq_of_mem_set hy with hy | hy
    · exact ih (by omega) y hy
    · have hm := ho _ (List.getElem_mem (show k < o.length by omega))
      have hg : o.getD k 0 = o[k] := by rw [List.getD_eq_getElem?_getD, List.getElem?_eq_getElem (by omega)]; rfl
      have hp := prefS_lt o o.length k ho (by omega)
      rw [hg] at hy
      have hse := setBit_lt (prefS o k) o[k].toNat o.length hp (by omega)
      rw [hy]
      exact gainL_bd l _ _ (by omega) (by omega) hlb
theorem mxX_bd {n : Int} {l x : List Int} (h : optB n l x = true) : (mxX l x).length = x.length ∧ ∀ k, (hk : k < (mxX l x).length) → -2000 ≤ (mxX l x)[k] ∧ (mxX l x)[k] ≤ 2000 := by
  obtain ⟨h5, _, hl, _, hlb, _⟩ := opt_fun h
  have ho := ordN_len x x.length
  refine ⟨?_, fun k hk => cornerTo_bd l _ (by rw [ho]; exact hl) hlb (by rw [ho]; exact ordN_mem x x.length) _ (Nat.le_refl _) _ (List.getElem_mem hk)⟩
  unfold mxX cornerL
  rw [cornerTo_len, ho]

def bestL (n : Int) (l x : List Int) : List Int := if optB n l x then ordN x x.length else []
end Go.Proofs.YtpaoiiiceekkkaaDoor
end
