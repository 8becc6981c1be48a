/- The line of covers: what is computed. The line of two matroids: what is computed. Largest common independent sets. -/
import Derived.Test.YtpaoiiiceekkkaaGreatDoorQ32
section
namespace Go.Proofs.YtpaoiiiceekkkaaGreatDoor
open Go.RowKit Go.G5

/-- the parts behind the first ones, each with a space ahead -/
def tailB : List ByteArray → ByteArray
  | [] => ByteArray.empty
  | y :: r => space ++ y ++ tailB r
theorem tailB_data : ∀ r : List ByteArray, (tailB r).data.toList = Lib.joinTail [32] (r.map (·.data.toList))
  | [] => rfl
  | y :: r => by
    rw [tailB, ba_app, ba_app, tailB_data r]
    simp [Lib.joinTail, d1]
theorem join_app (xs ys : List ByteArray) (h : xs ≠ []) : joinB space (xs ++ ys) = joinB space xs ++ tailB ys := by
  cases xs with
  | nil => exact absurd rfl h
  | cons x r =>
    refine ba_ext ?_
    rw [ba_app, tailB_data]
    show Lib.join ((x :: (r ++ ys)).map (·.data.toList)) space.data.toList = Lib.join ((x :: r).map (·.data.toList)) space.data.toList ++ _
    rw [List.map_cons, List.map_cons, Lib.join_cons, Lib.join_cons, List.map_append, joinTail_app, d1]
    simp [List.append_assoc]
def covA (N A : ByteArray) : List ByteArray := [(⟨#[99, 111, 118, 101, 114]⟩ : ByteArray), (⟨#[112, 97, 99, 107, 105, 110, 103]⟩ : ByteArray), N, (⟨#[111, 102]⟩ : ByteArray), A]
def covAT (N A : ByteArray) : ByteArray := (⟨#[99, 111, 118, 101, 114, 32, 112, 97, 99, 107, 105, 110, 103, 32]⟩ : ByteArray) ++ N ++ (⟨#[32, 111, 102, 32]⟩ : ByteArray) ++ A
theorem covA_is (N A : ByteArray) : joinB space (covA N A) = covAT N A := by
  unfold covA covAT
  simp only [joinB_cons2, joinB_one]
  refine ba_ext ?_
  simp [space]
def covB (b : Bool) (N S : ByteArray) : List ByteArray := if b then [(⟨#[116, 114, 97, 110, 115, 118, 101, 114, 115, 97, 108]⟩ : ByteArray), N, (⟨#[98, 121]⟩ : ByteArray), S] else []
def covBT (b : Bool) (X N S : ByteArray) : ByteArray := if b then X ++ (⟨#[32, 116, 114, 97, 110, 115, 118, 101, 114, 115, 97, 108, 32]⟩ : ByteArray) ++ N ++ (⟨#[32, 98, 121, 32]⟩ : ByteArray) ++ S else X
theorem covB_is (b : Bool) (X N S : ByteArray) : X ++ tailB (covB b N S) = covBT b X N S := by
  cases b with
  | false => exact ba_ext (by rw [ba_app]; show X.data.toList ++ [] = X.data.toList; simp)
  | true =>
    refine ba_ext ?_
    simp [covB, covBT, tailB, space]
def covC (b : Bool) (N M P : ByteArray) : List ByteArray := if b then [(⟨#[115, 109, 97, 108, 108, 101, 115, 116]⟩ : ByteArray), N, (⟨#[103, 114, 101, 101, 100, 121]⟩ : ByteArray), M, (⟨#[112, 114, 105, 99, 101, 115]⟩ : ByteArray), P] else []
def covCT (b : Bool) (X N M P : ByteArray) : ByteArray := if b then X ++ (⟨#[32, 115, 109, 97, 108, 108, 101, 115, 116, 32]⟩ : ByteArray) ++ N ++ (⟨#[32, 103, 114, 101, 101, 100, 121, 32]⟩ : ByteArray) ++ M ++ (⟨#[32, 112, 114, 105, 99, 101, 115, 32]⟩ : ByteArray) ++ P else X
theorem covC_is (b : Bool) (X N M P : ByteArray) : X ++ tailB (covC b N M P) = covCT b X N M P := by
  cases b with
  | false => exact ba_ext (by rw [ba_app]; show X.data.toList ++ [] = X.data.toList; simp)
  | true =>
    refine ba_ext ?_
    simp [covC, covCT, tailB, space]
def covL (g : Int) (l : List Int) : List ByteArray := (covA (itoaB ((pkL g l).length : Int)) (famTx g (pkL g l)) ++ covB (tnOk g l) (itoaB (tnN g l)) (setTx g (tnS g l))) ++ covC (smallB g l) (itoaB ((smallL g l).length : Int)) (itoaB ((greedyL g l).length : Int)) (numB (pricesL g l))
def covT (g : Int) (l : List Int) : ByteArray := covCT (smallB g l) (covBT (tnOk g l) (covAT (itoaB ((pkL g l).length : Int)) (famTx g (pkL g l))) (itoaB (tnN g l)) (setTx g (tnS g l))) (itoaB ((smallL g l).length : Int)) (itoaB ((greedyL g l).length : Int)) (numB (pricesL g l))
theorem cov_is (g : Int) (l : List Int) : joinB space (covL g l) = covT g l := by
  unfold covL covT
  rw [join_app _ _ (by simp [covA]), join_app _ _ (by simp [covA]), covA_is, covB_is, covC_is]
def covLn (g : Int) (l : List Int) : ByteArray := if isFamB g l then covT g l else ByteArray.empty
theorem covLn_yes {g : Int} {l : List Int} (h : isFamB g l = true) : covLn g l = covT g l := by unfold covLn; rw [if_pos h]
theorem covLn_no {g : Int} {l : List Int} (h : isFamB g l = false) : covLn g l = ByteArray.empty := by unfold covLn; rw [h]; rfl
theorem pricesL_6 (g : Int) (l : List Int) : (pricesL g l).length ≤ 6 := by
  unfold pricesL
  split
  · rename_i h
    rw [prTo_len]
    unfold greedyB greedyOf at h
    split at h
    · rename_i hf
      obtain ⟨h0, h6, _⟩ := famOk hf
      omega
    · simp at h
  · simp
theorem covAT_size (N A : ByteArray) (hN : N.size ≤ 21) (hA : A.size ≤ 10000) : (covAT N A).size ≤ 10100 := by
  unfold covAT
  simp only [ByteArray.size_append]
  have e1 : (⟨#[99, 111, 118, 101, 114, 32, 112, 97, 99, 107, 105, 110, 103, 32]⟩ : ByteArray).size = 14 := rfl
  have e2 : (⟨#[32, 111, 102, 32]⟩ : ByteArray).size = 4 := rfl
  omega
theorem covBT_size (b : Bool) (X N S : ByteArray) (hX : X.size ≤ 10100) (hN : N.size ≤ 21) (hS : S.size ≤ 132) : (covBT b X N S).size ≤ 10300 := by
  cases b with
  | false => show X.size ≤ _; omega
  | true =>
    unfold covBT
    rw [if_pos rfl]
    simp only [ByteArray.size_append]
    have e1 : (⟨#[32, 116, 114, 97, 110, 115, 118, 101, 114, 115, 97, 108, 32]⟩ : ByteArray).size = 13 := rfl
    have e2 : (⟨#[32, 98, 121, 32]⟩ : ByteArray).size = 4 := rfl
    omega
theorem covCT_size (b : Bool) (X N M P : ByteArray) (hX : X.size ≤ 10300) (hN : N.size ≤ 21) (hM : M.size ≤ 21) (hP : P.size ≤ 200) : (covCT b X N M P).size ≤ 11000 := by
  cases b with
  | false => show X.size ≤ _; omega
  | true =>
    unfold covCT
    rw [if_pos rfl]
    simp only [ByteArray.size_append]
    have e1 : (⟨#[32, 115, 109, 97, 108, 108, 101, 115, 116, 32]⟩ : ByteArray).size = 10 := rfl
    have e2 : (⟨#[32, 103, 114, 101, 101, 100, 121, 32]⟩ : ByteArray).size = 8 := rfl
    have e3 : (⟨#[32, 112, 114, 105, 99, 101, 115, 32]⟩ : ByteArray).size = 8 := rfl
    omega
theorem pkL_64 (g : Int) (l : List Int) : (pkL g l).length ≤ 64 := by
  unfold pkL
  split
  · rename_i hf
    exact packS_len 64 l 0 [] [] (by simpa using fam_len hf) (by simp)
  · simp
theorem covT_size (g : Int) (l : List Int) (h : smallB g l = true → ∀ x ∈ pricesL g l, InR x) : (covT g l).size ≤ 11000 := by
  have h1 := pkL_64 g l
  have h2 := itoaB_size ((pkL g l).length : Int) ⟨by omega, by omega⟩
  have h3 := famTx_size g (pkL g l)
  have h4 := tnN_bd g l
  have h5 := itoaB_size (tnN g l) ⟨by omega, by omega⟩
  have h6 := setTx_size g (tnS g l)
  have h7 := covAT_size _ _ h2 h3
  have h8 := covBT_size (tnOk g l) _ _ _ h7 h5 h6
  unfold covT
  cases hb : smallB g l with
  | false => exact Nat.le_trans h8 (by decide)
  | true =>
    have h9 := smallL_len g l
    have ha := greedyL_64 g l
    have hc := numB_size _ (h hb)
    have hd := pricesL_6 g l
    exact covCT_size _ _ _ _ _ h8 (itoaB_size _ ⟨by omega, by omega⟩) (itoaB_size _ ⟨by omega, by omega⟩) (by omega)
end Go.Proofs.YtpaoiiiceekkkaaGreatDoor
end
section
namespace Go.Proofs.YtpaoiiiceekkkaaGreatDoor
open Go.RowKit Go.G5

theorem sumT_bd {n m : Int} {l k : List Int} (h : comB n l m k = true) (t : Nat) : -2000 ≤ sumT l k t ∧ sumT l k t ≤ 2000 := by
  obtain ⟨_, N, _, _, _, _, _, hl, hk⟩ := com_fun h
  have g : ∀ (L : List Int), (∀ i, (hi : i < L.length) → -1000 ≤ L[i] ∧ L[i] ≤ 1000) → ∀ i : Nat, -1000 ≤ L.getD i 0 ∧ L.getD i 0 ≤ 1000 := by
    intro L hL i
    by_cases hi : i < L.length
    · rw [getD_at L i hi]; exact hL i hi
    · have e : L.getD i 0 = 0 := by unfold List.getD; rw [List.getElem?_eq_none (by omega)]; rfl
      rw [e]; omega
  have h1 := g l hl t
  have h2 := g k hk (l.length - 1 - t)
  unfold sumT
  omega
theorem cbN_bd (n : Int) (l : List Int) (m : Int) (k : List Int) : -2000 ≤ cbN n l m k ∧ cbN n l m k ≤ 2000 := by
  cases h : comB n l m k with
  | false => unfold cbN; rw [h, if_neg (by simp)]; omega
  | true => unfold cbN; rw [h, if_pos rfl]; exact sumT_bd h _
theorem cells_of (w : World) (ys : List ByteArray) (t : TypeId) : ∀ (j : Nat) z, ys[j]? = some z → (w.alloc (.cells (ys.map Value.string).toArray t)).cell? ⟨w.heap.size, 0 + j, none⟩ = some (.string z) := by
  intro j z hz
  refine cell_new w _ t (0 + j) _ ?_
  simp [hz]
def plP (C N A U F : ByteArray) : List ByteArray := [(⟨#[112, 97, 105, 114]⟩ : ByteArray), (⟨#[99, 111, 109, 109, 111, 110]⟩ : ByteArray), C, (⟨#[98, 111, 117, 110, 100]⟩ : ByteArray), N, (⟨#[97, 116]⟩ : ByteArray), A, (⟨#[117, 110, 105, 111, 110]⟩ : ByteArray), U, (⟨#[98, 97, 115, 101, 115]⟩ : ByteArray), F]
def plQ (C N A U F : ByteArray) : ByteArray := (⟨#[112, 97, 105, 114, 32, 99, 111, 109, 109, 111, 110, 32]⟩ : ByteArray) ++ C ++ (⟨#[32, 98, 111, 117, 110, 100, 32]⟩ : ByteArray) ++ N ++ (⟨#[32, 97, 116, 32]⟩ : ByteArray) ++ A ++ (⟨#[32, 117, 110, 105, 111, 110, 32]⟩ : ByteArray) ++ U ++ (⟨#[32, 98, 97, 115, 101, 115, 32]⟩ : ByteArray) ++ F
theorem plQ_is (C N A U F : ByteArray) : joinB space (plP C N A U F) = plQ C N A U F := by
  unfold plP plQ
  simp only [joinB_cons2, joinB_one]
  refine ba_ext ?_
  simp [space]
def plL (n : Int) (l : List Int) (m : Int) (k : List Int) : List ByteArray := plP (setTx n (lcS n l m k)) (itoaB (cbN n l m k)) (setTx n (cbS n l m k)) (setTx n (luS n l m k)) (famTx (cbaN n l m k) (cbaL n l m k))
def plT (n : Int) (l : List Int) (m : Int) (k : List Int) : ByteArray := plQ (setTx n (lcS n l m k)) (itoaB (cbN n l m k)) (setTx n (cbS n l m k)) (setTx n (luS n l m k)) (famTx (cbaN n l m k) (cbaL n l m k))
theorem pl_is (n : Int) (l : List Int) (m : Int) (k : List Int) : joinB space (plL n l m k) = plT n l m k := plQ_is _ _ _ _ _
def plLn (n : Int) (l : List Int) (m : Int) (k : List Int) : ByteArray := if comB n l m k then plT n l m k else ByteArray.empty
theorem plLn_yes {n m : Int} {l k : List Int} (h : comB n l m k = true) : plLn n l m k = plT n l m k := by unfold plLn; rw [if_pos h]
theorem plLn_no {n m : Int} {l k : List Int} (h : comB n l m k = false) : plLn n l m k = ByteArray.empty := by unfold plLn; rw [h]; rfl
theorem plQ_size (C N A U F : ByteArray) (h1 : C.size ≤ 132) (h2 : N.size ≤ 21) (h3 : A.size ≤ 132) (h4 : U.size ≤ 132) (h5 : F.size ≤ 10000) : (plQ C N A U F).size ≤ 10600 := by
  unfold plQ
  simp only [ByteArray.size_append]
  have e0 : (⟨#[112, 97, 105, 114, 32, 99, 111, 109, 109, 111, 110, 32]⟩ : ByteArray).size = 12 := rfl
  have e1 : (⟨#[32, 98, 111, 117, 110, 100, 32]⟩ : ByteArray).size = 7 := rfl
  have e2 : (⟨#[32, 97, 116, 32]⟩ : ByteArray).size = 4 := rfl
  have e3 : (⟨#[32, 117, 110, 105, 111, 110, 32]⟩ : ByteArray).size = 7 := rfl
  have e4 : (⟨#[32, 98, 97, 115, 101, 115, 32]⟩ : ByteArray).size = 7 := rfl
  omega
theorem plT_size (n : Int) (l : List Int) (m : Int) (k : List Int) : (plT n l m k).size ≤ 10600 := by
  have h := cbN_bd n l m k
  exact plQ_size _ _ _ _ _ (setTx_size _ _) (itoaB_size _ ⟨by omega, by omega⟩) (setTx_size _ _) (setTx_size _ _) (famTx_size _ _)
end Go.Proofs.YtpaoiiiceekkkaaGreatDoor
end
section
namespace Go.Proofs.YtpaoiiiceekkkaaGreatDoor
open Go.RowKit Go.G5

theorem lcTo_succ (l k : List Int) (t : Nat) : lcTo l k (t + 1) = if decide (pop (lcTo l k t) < pop t) && (freeB l t && freeB k t) then t else lcTo l k t := rfl
theorem lcTo_le (l k : List Int) (t : Nat) : lcTo l k t ≤ t := by
  rcases Nat.eq_zero_or_pos t with rfl | h
  · exact Nat.le_refl _
  · exact Nat.le_of_lt (lcTo_lt l k t h)
set_option maxHeartbeats 1000000 in
set_option maxRecDepth 100000 in
theorem leastLargest_any (w : World) (n : Nat) (hn : n ≤ 5) (c : FuncId) (he : ∀ args w, (callFunc c args).run Tryz.prog w = .ok (.enter c args) w) (g1 g2 : Nat) (l k : List Int)
    (hw : ∀ (s : Nat) W', s < 2 ^ n → Below w.heap.size w W' → Calls Tryz.prog c #[.int .i64 (s : Int), .pointer (some ⟨g1, 0, none⟩), .pointer (some ⟨g2, 0, none⟩)] W' fun e w2 => e = .returned (.bool (freeB l s && freeB k s)) ∧ Below W'.heap.size W' w2) :
    Calls Tryz.prog 157 #[.int .i64 (n : Int), .func (.func c) #[] #[.pointer (some ⟨g1, 0, none⟩), .pointer (some ⟨g2, 0, none⟩)]] w fun e w' => e = .returned (.int .i64 (lcTo l k (2 ^ n) : Int)) ∧ Below w.heap.size w w' := by
  have hpn : (2 : Nat) ^ n ≤ 32 := Nat.pow_le_pow_right (n := 2) (by decide) hn
  have hpi : ((2 ^ n : Nat) : Int) = (2 : Int) ^ n := by simp
  obtain ⟨N, hN⟩ : ∃ N : Nat, N = 2 ^ n := ⟨_, rfl⟩
  rw [← hN] at hw hpn hpi ⊢
  have HW := Lib.hid hw
  clear hN hw
  go_enter Tryz.func157, Tryz.ntmps157
  go_wp2_with fail
  go_loopw [5, 10] (fun bst i wr => ∃ t : Nat, t ≤ N ∧ i = .int .i64 t ∧ bst = .int .i64 (lcTo l k t : Int) ∧ Below w.heap.size w wr) (fun _ i _ => N - (intOf i).toNat)
  case atStart => exact ⟨0, Nat.zero_le _, rfl, rfl, Below.refl _ _⟩
  case round =>
    obtain ⟨t, ht, rfl, rfl, B⟩ := hrel
    have hle := lcTo_le l k t
    by_cases hlt : t < N
    · have hlt2 : (t : Int) < 2 ^ n := by rw [← hpi]; exact_mod_cast hlt
      have hsucc := lcTo_succ l k t
      obtain ⟨b, hb⟩ : ∃ b, b = lcTo l k t := ⟨_, rfl⟩
      rw [← hb] at hle hsucc ⊢
      have HS1 := Lib.hid (fun W => sizeOf_any t W (by omega))
      have HS2 := Lib.hid (fun W => sizeOf_any b W (by omega))
      have hcl := HW.out t wr hlt B
      by_cases hgt : pop b < pop t
      · rw [decide_eq_true hgt, Bool.true_and] at hsucc
        cases hP : (freeB l t && freeB k t) with
        | true =>
          rw [hP] at hcl hsucc
          have HSU := Lib.hid hsucc
          clear hP hsucc hb
          go_wp2_with (first
            | (go_at_call 188; (first | (with_reducible refine (HS1.out _).mono ?_) | (with_reducible refine (HS2.out _).mono ?_)); rintro e w1 ⟨rfl, rfl⟩)
            | (go_at_fn c; refine hcl.mono ?_; rintro e w2 ⟨rfl, hb2⟩))
          go_roundw
          case rel => exact ⟨t + 1, by omega, by go_num, by rw [HSU.out]; rfl, B.after hb2 B.size⟩
          case measure => simp [intOf]; omega
        | false =>
          rw [hP] at hcl hsucc
          have HSU := Lib.hid hsucc
          clear hP hsucc hb
          go_wp2_with (first
            | (go_at_call 188; (first | (with_reducible refine (HS1.out _).mono ?_) | (with_reducible refine (HS2.out _).mono ?_)); rintro e w1 ⟨rfl, rfl⟩)
            | (go_at_fn c; refine hcl.mono ?_; rintro e w2 ⟨rfl, hb2⟩))
          go_roundw
          case rel => exact ⟨t + 1, by omega, by go_num, by rw [HSU.out]; rfl, B.after hb2 B.size⟩
          case measure => simp [intOf]; omega
      · rw [decide_eq_false hgt, Bool.false_and] at hsucc
        have HSU := Lib.hid hsucc
        clear hsucc hb hcl
        go_wp2_with (go_at_call 188; (first | (with_reducible refine (HS1.out _).mono ?_) | (with_reducible refine (HS2.out _).mono ?_)); rintro e w1 ⟨rfl, rfl⟩)
        go_roundw
        case rel => exact ⟨t + 1, by omega, by go_num, by rw [HSU.out]; rfl, B⟩
        case measure => simp [intOf]; omega
    · have hlt2 : ¬ (t : Int) < 2 ^ n := by rw [← hpi]; exact_mod_cast hlt
      have htN : t = N := by omega
      subst htN
      go_wp2
      go_ret
      exact ⟨rfl, B⟩
set_option maxHeartbeats 1000000 in
set_option maxRecDepth 100000 in
theorem largestCommonI_c (w : World) (n : Int) (v : Value) (l : List Int) (hv : Ints w v l) (hl : l.length ≤ 1048576) (m : Int) (u : Value) (k : List Int) (hu : Ints w u k) (hk : k.length ≤ 1048576) :
    Calls Tryz.prog 53 #[.agg #[.int .i64 n, v], .agg #[.int .i64 m, u]] w fun e w' => e = .returned (.tuple #[.int .i64 (lcS n l m k), .bool (comB n l m k)]) ∧ Below w.heap.size w w' := by
  obtain ⟨a, c, rfl⟩ := hv.shape
  obtain ⟨b, d, rfl⟩ := hu.shape
  have hmf : ∀ (fn : Fn) (first cap : Array Value) (w : World), (Instr.makeFunc fn first cap).run Tryz.prog w = .ok (.func fn first cap) w := fun _ _ _ _ => rfl
  go_enter Tryz.func53, Tryz.ntmps53
  go_wp2_with fail
  refine calls_named ?_
  intro V hV
  have B : Below w.heap.size w V := by rw [hV]; exact bl2 _ _ _
  have K1 : Blk V w.heap.size 27 #[.int .i64 n, .slice a l.length c] := by rw [hV]; exact (Blk.new _ _ _).alloc _
  have K2 : Blk V (w.heap.size + 1) 27 #[.int .i64 m, .slice b k.length d] := by rw [hV]; have := Blk.new (w.alloc (.cells #[.int .i64 n, .slice a l.length c] 27)) 27 #[.int .i64 m, .slice b k.length d]; simpa using this
  clear hV
  refine (areMatI_any V n _ l (hv.below B (Nat.le_refl _)) hl m _ k (hu.below B (Nat.le_refl _)) hk).mono ?_
  rintro e w1 ⟨rfl, b1⟩
  have K1 := K1.keep b1
  have K2 := K2.keep b1
  have B := B.after b1 B.size
  have hv1 := hv.below B (Nat.le_refl _)
  have hu1 := hu.below B (Nat.le_refl _)
  have z2 := K2.lt
  have G1 := K1.cell
  cases hf : comB n l m k with
  | false =>
    have hx : lcS n l m k = 0 := by unfold lcS; rw [hf]; rfl
    have HX := Lib.hid hx
    have HF := Lib.hid hf
    clear hx hf
    go_wp2
    go_ret2
    exact ⟨by rw [HX.out, HF.out]; rfl, B⟩
  | true =>
    obtain ⟨rfl, N, rfl, hN5, hl2, hl32, hkl, _, _⟩ := com_fun hf
    have hx : lcS N l N k = (lcTo l k (2 ^ N) : Int) := by unfold lcS; rw [hf, if_pos rfl, hl2]
    have HX := Lib.hid hx
    have HF := Lib.hid hf
    have hcl := leastLargest_any w1 N hN5 158 freeClosure_enters w.heap.size (w.heap.size + 1) l k (fun s W' hs hB =>
      freeClosure W' w.heap.size (w.heap.size + 1) N N _ _ l k (hv1.keep hB) (hu1.keep hB) hkl hl32 s (by omega) (K1.keep hB) (K2.keep hB))
    have HCL := Lib.hid hcl
    clear hx hf hl2 hkl hcl
    go_wp2_with fail
    refine HCL.out.mono ?_
    rintro e w2 ⟨rfl, b2⟩
    go_wp2
    go_ret2
    exact ⟨by rw [HX.out, HF.out]; rfl, B.after b2 B.size⟩
set_option maxHeartbeats 2000000 in
set_option maxRecDepth 100000 in
theorem largestCommonS_c (w : World) (n : Int) (v : Value) (l : List Int) (hv : Ints w v l) (hl : l.length ≤ 1048576) (m : Int) (u : Value) (k : List Int) (hu : Ints w u k) (hk : k.length ≤ 1048576) :
    Calls Tryz.prog 45 #[.agg #[.int .i64 n, v], .agg #[.int .i64 m, u]] w fun e w' => e = .returned (.tuple #[.int .i64 (lcS n l m k), .bool (comB n l m k)]) ∧ Below w.heap.size w w' := by
  have hv0 := hv
  have hu0 := hu
  obtain ⟨a, bb, off, c, rfl, hlen, hix, hc, hb⟩ := hv.view Tryz.prog 22 3 Tryz.underlying22 intElem
  obtain ⟨a', bb', off', c', rfl, hlen', hix', hc', hb'⟩ := hu.view Tryz.prog 22 3 Tryz.underlying22 intElem
  go_enter Tryz.func45, Tryz.ntmps45
  go_wp2_with fail
  refine calls_named ?_
  intro V hV
  have B : Below w.heap.size w V := by rw [hV]; exact bl2 _ _ _
  have K1 : Blk V w.heap.size 27 #[.int .i64 n, .slice a l.length c] := by rw [hV]; exact (Blk.new _ _ _).alloc _
  have K2 : Blk V (w.heap.size + 1) 27 #[.int .i64 m, .slice a' k.length c'] := by rw [hV]; have := Blk.new (w.alloc (.cells #[.int .i64 n, .slice a l.length c] 27)) 27 #[.int .i64 m, .slice a' k.length c']; simpa using this
  clear hV
  refine (areMatS_any V n _ l (hv0.below B (Nat.le_refl _)) hl m _ k (hu0.below B (Nat.le_refl _)) hk).mono ?_
  rintro e w1 ⟨rfl, b1⟩
  have K1 := K1.keep b1
  have K2 := K2.keep b1
  have B := B.after b1 B.size
  have z2 := K2.lt
  have hc1 := cells_below hc hb B (Nat.le_refl _)
  have hc2 := cells_below hc' hb' B (Nat.le_refl _)
  have G1 := K1.cell
  have G2 := K2.cell
  cases hf : comB n l m k with
  | false =>
    have hx : lcS n l m k = 0 := by unfold lcS; rw [hf]; rfl
    have HX := Lib.hid hx
    have HF := Lib.hid hf
    clear hx hf hc hc' hc1 hc2
    go_wp2
    go_ret2
    exact ⟨by rw [HX.out, HF.out]; rfl, B⟩
  | true =>
    obtain ⟨rfl, N, rfl, hN5, hl2, hl32, hkl, hlb, hkb⟩ := com_fun hf
    have hx : lcS N l N k = (lcTo l k l.length : Int) := by unfold lcS; rw [hf, if_pos rfl]
    have h1 := lcTo_one l k
    have HX := Lib.hid hx
    have HF := Lib.hid hf
    have HKL := Lib.hid hkl
    have HC1 := Lib.hid hc1
    have HC2 := Lib.hid hc2
    have HIX := Lib.hid hix
    have HIX2 := Lib.hid hix'
    have HB := Lib.hid (And.intro hlb hkb)
    have hpos : 1 ≤ l.length := by rw [hl2]; exact Nat.two_pow_pos N
    clear hx hf hl2 hkl hc hc' hc1 hc2 hix hix' hb hb' hlb hkb
    go_wp2_with fail
    go_loop [6, 7] (fun bst i => ∃ t : Nat, 1 ≤ t ∧ t ≤ l.length ∧ i = .int .i64 t ∧ bst = .int .i64 (lcTo l k t : Int)) (fun _ i => l.length - (intOf i).toNat)
    case atStart => exact ⟨1, Nat.le_refl _, hpos, rfl, by rw [h1]; rfl⟩
    case round =>
      obtain ⟨t, ht1, ht, rfl, rfl⟩ := hrel
      have hlt0 := lcTo_lt l k t ht1
      by_cases hlt : t < l.length
      · have hlt2 : (t : Int) < (l.length : Int) := by omega
        have hsucc := lcTo_succ l k t
        have ck := HC1.out t hlt
        have ck2 := HC2.out t (by rw [HKL.out]; exact hlt)
        have ik := fun W => HIX.out W t hlt
        have ik2 := fun W => HIX2.out W t (by rw [HKL.out]; exact hlt)
        have hfl : freeB l t = (l[t] == (pop t : Int)) := by unfold freeB; rw [getD_at l t hlt]; exact (beq_dec _ _).symm
        have hfk : freeB k t = (k[t]'(by rw [HKL.out]; exact hlt) == (pop t : Int)) := by unfold freeB; rw [getD_at k t (by rw [HKL.out]; exact hlt)]; exact (beq_dec _ _).symm
        obtain ⟨x, hx⟩ : ∃ x, x = l[t] := ⟨_, rfl⟩
        obtain ⟨y, hy⟩ : ∃ y, y = k[t]'(by rw [HKL.out]; exact hlt) := ⟨_, rfl⟩
        rw [← hx] at ck hfl
        rw [← hy] at ck2 hfk
        rw [hfl, hfk] at hsucc
        obtain ⟨b, hbe⟩ : ∃ b, b = lcTo l k t := ⟨_, rfl⟩
        rw [← hbe] at hlt0 hsucc ⊢
        have HS1 := Lib.hid (fun W => l2Size_any t W (by omega))
        have HS2 := Lib.hid (fun W => l2Size_any b W (by omega))
        obtain ⟨P, hP⟩ : ∃ P, P = pop t := ⟨_, rfl⟩
        obtain ⟨Q, hQ⟩ : ∃ Q, Q = pop b := ⟨_, rfl⟩
        simp only [← hP] at HS1 hsucc
        simp only [← hQ] at HS2 hsucc
        clear hx hy hfl hfk hbe hP hQ
        by_cases hgt : Q < P
        · rw [decide_eq_true hgt, Bool.true_and] at hsucc
          have hgt2 : (Q : Int) < (P : Int) := by omega
          cases e1 : (x == (P : Int)) with
          | false =>
            rw [e1] at hsucc
            have HSU := Lib.hid hsucc
            clear hsucc
            go_wp2_with (go_at_call 148; (first | (with_reducible refine (HS1.out _).mono ?_) | (with_reducible refine (HS2.out _).mono ?_)); rintro e w2 ⟨rfl, rfl⟩)
            go_round
            case rel => exact ⟨t + 1, by omega, by omega, by go_num, by rw [HSU.out]; rfl⟩
            case measure => simp [intOf]; omega
          | true =>
            cases e2 : (y == (P : Int)) with
            | false =>
              rw [e1, e2] at hsucc
              have HSU := Lib.hid hsucc
              clear hsucc
              go_wp2_with (go_at_call 148; (first | (with_reducible refine (HS1.out _).mono ?_) | (with_reducible refine (HS2.out _).mono ?_)); rintro e w2 ⟨rfl, rfl⟩)
              go_round
              case rel => exact ⟨t + 1, by omega, by omega, by go_num, by rw [HSU.out]; rfl⟩
              case measure => simp [intOf]; omega
            | true =>
              rw [e1, e2] at hsucc
              have HSU := Lib.hid hsucc
              clear hsucc
              go_wp2_with (go_at_call 148; (first | (with_reducible refine (HS1.out _).mono ?_) | (with_reducible refine (HS2.out _).mono ?_)); rintro e w2 ⟨rfl, rfl⟩)
              go_round
              case rel => exact ⟨t + 1, by omega, by omega, by go_num, by rw [HSU.out]; rfl⟩
              case measure => simp [intOf]; omega
        · rw [decide_eq_false hgt, Bool.false_and] at hsucc
          have hgt2 : ¬ (Q : Int) < (P : Int) := by omega
          have HSU := Lib.hid hsucc
          clear hsucc
          go_wp2_with (go_at_call 148; (first | (with_reducible refine (HS1.out _).mono ?_) | (with_reducible refine (HS2.out _).mono ?_)); rintro e w2 ⟨rfl, rfl⟩)
          go_round
          case rel => exact ⟨t + 1, by omega, by omega, by go_num, by rw [HSU.out]; rfl⟩
          case measure => simp [intOf]; omega
      · have hlt2 : ¬ (t : Int) < (l.length : Int) := by omega
        have htl : t = l.length := by omega
        have HT := Lib.hid htl
        clear htl
        go_wp2
        go_ret2
        exact ⟨by rw [HX.out, HF.out, ← HT.out]; rfl, B⟩
end Go.Proofs.YtpaoiiiceekkkaaGreatDoor
end
