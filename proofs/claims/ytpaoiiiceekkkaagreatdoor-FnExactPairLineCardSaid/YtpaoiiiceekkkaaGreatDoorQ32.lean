/- The greatest excess: what is computed. The line of a function: what is computed. Packings: what is computed. The smallest transversal: both programs. -/
import Derived.Test.YtpaoiiiceekkkaaGreatDoorQ31
section
namespace Go.Proofs.YtpaoiiiceekkkaaGreatDoor
open Go.RowKit Go.G5

def gstep (l : List Int) (a : Int) (t : Tri) : Int × Bool := (max a (exL l t.1 t.2.1 t.2.2), true)
def gapT (n : Nat) (l : List Int) : Int := (runT (gstep l) (tri3 n (2 ^ n)) 0).1
def gapN (n : Int) (l : List Int) : Int := if isFunB n l then gapT n.toNat l else 0
/-- the greatest of 0 and the numbers of a list -/
def most0 (X : List Int) (a : Int) : Int := X.foldl max a
theorem most0_ge : ∀ (X : List Int) (a : Int), a ≤ most0 X a ∧ ∀ x ∈ X, x ≤ most0 X a
  | [], a => ⟨Int.le_refl _, by simp⟩
  | y :: X, a => by
    have ⟨h1, h2⟩ := most0_ge X (max a y)
    refine ⟨by unfold most0 at h1 ⊢; rw [List.foldl_cons]; omega, fun x hx => ?_⟩
    rcases List.mem_cons.1 hx with rfl | hx
    · unfold most0 at h1 ⊢; rw [List.foldl_cons]; omega
    · exact h2 x hx
theorem most0_is : ∀ (X : List Int) (a : Int), most0 X a = a ∨ most0 X a ∈ X
  | [], a => .inl rfl
  | y :: X, a => by
    have h := most0_is X (max a y)
    have e : most0 (y :: X) a = most0 X (max a y) := rfl
    rw [e]
    rcases h with h | h
    · rw [h]
      rcases Int.le_total a y with h1 | h1
      · right; rw [Int.max_eq_right h1]; simp
      · left; exact Int.max_eq_left h1
    · exact .inr (List.mem_cons_of_mem _ h)
theorem most0_eq (X Y : List Int) (a : Int) (h1 : ∀ x ∈ X, x ∈ Y) (h2 : ∀ y ∈ Y, y ∈ X) : most0 X a = most0 Y a := by
  have ax := most0_ge X a
  have ay := most0_ge Y a
  have ix := most0_is X a
  have iy := most0_is Y a
  have e1 : most0 X a ≤ most0 Y a := by
    rcases ix with h | h
    · rw [h]; exact ay.1
    · exact ay.2 _ (h1 _ h)
  have e2 : most0 Y a ≤ most0 X a := by
    rcases iy with h | h
    · rw [h]; exact ax.1
    · exact ax.2 _ (h2 _ h)
  omega
theorem most0_snoc (X : List Int) (a y : Int) : most0 (X ++ [y]) a = max (most0 X a) y := by simp [most0]
def exT (l : List Int) (t : Tri) : Int := exL l t.1 t.2.1 t.2.2
theorem gap_run (l : List Int) : ∀ (T : List Tri) (a : Int), runT (gstep l) T a = (most0 (T.map (exT l)) a, true)
  | [], _ => rfl
  | t :: T, a => by
    rw [runT]
    show (if true = true then _ else _) = _
    rw [if_pos rfl, gap_run l T]
    rfl
/-! in the other order -/
def trk (s i : Nat) : Nat → List Tri
  | 0 => []
  | k + 1 => trk s i k ++ (if (!nbit s i && !nbit s k) then [(s, i, k)] else [])
def trk2 (s : Nat) : Nat → List Tri
  | 0 => []
  | i + 1 => trk2 s i ++ trk s i i
def trk3 (n : Nat) : Nat → List Tri
  | 0 => []
  | s + 1 => trk3 n s ++ trk2 s n
theorem trk_iff (s i k : Nat) (t : Tri) : t ∈ trk s i k ↔ t.1 = s ∧ t.2.1 = i ∧ t.2.2 < k ∧ nbit s i = false ∧ nbit s t.2.2 = false := by
  induction k with
  | zero => simp [trk]
  | succ k ih =>
    rw [trk, List.mem_append, ih]
    obtain ⟨a, b, c⟩ := t
    constructor
    · rintro (h | h)
      · exact ⟨h.1, h.2.1, by have := h.2.2.1; omega, h.2.2.2⟩
      · split at h
        · rename_i hc
          rw [List.mem_singleton] at h
          simp only [Prod.mk.injEq] at h
          obtain ⟨rfl, rfl, rfl⟩ := h
          simp only [Bool.and_eq_true, Bool.not_eq_true'] at hc
          exact ⟨rfl, rfl, by simp, hc.1, hc.2⟩
        · cases h
    · rintro ⟨h1, h2, h3, h4, h5⟩
      simp only at h1 h2 h3 h5
      by_cases hk : c = k
      · right
        subst hk h1 h2
        rw [if_pos (by rw [h4, h5]; rfl)]; simp
      · left; exact ⟨h1, h2, by simp only; omega, h4, h5⟩
theorem trk2_iff (s i : Nat) (t : Tri) : t ∈ trk2 s i ↔ t.1 = s ∧ t.2.1 < i ∧ t.2.2 < t.2.1 ∧ nbit s t.2.1 = false ∧ nbit s t.2.2 = false := by
  induction i with
  | zero => simp [trk2]
  | succ i ih =>
    rw [trk2, List.mem_append, ih, trk_iff]
    constructor
    · rintro (h | h)
      · exact ⟨h.1, by omega, h.2.2⟩
      · have e := h.2.1
        exact ⟨h.1, by omega, by omega, by rw [e]; exact h.2.2.2.1, h.2.2.2.2⟩
    · rintro ⟨h1, h2, h3, h4, h5⟩
      by_cases hk : t.2.1 = i
      · right; exact ⟨h1, hk, by omega, by rw [← hk]; exact h4, h5⟩
      · left; exact ⟨h1, by omega, h3, h4, h5⟩
theorem trk3_iff (n s : Nat) (t : Tri) : t ∈ trk3 n s ↔ t.1 < s ∧ t.2.1 < n ∧ t.2.2 < t.2.1 ∧ nbit t.1 t.2.1 = false ∧ nbit t.1 t.2.2 = false := by
  induction s with
  | zero => simp [trk3]
  | succ s ih =>
    rw [trk3, List.mem_append, ih, trk2_iff]
    constructor
    · rintro (h | h)
      · exact ⟨by omega, h.2⟩
      · have e := h.1
        rw [e]
        exact ⟨by omega, h.2⟩
    · rintro ⟨h1, h2⟩
      by_cases hk : t.1 = s
      · right; rw [hk] at h2; exact ⟨hk, h2⟩
      · left; exact ⟨by omega, h2⟩
theorem tri_iff (s i k : Nat) (t : Tri) : t ∈ tri s i k ↔ t.1 = s ∧ t.2.1 = i ∧ i < t.2.2 ∧ t.2.2 < k ∧ nbit s i = false ∧ nbit s t.2.2 = false := by
  induction k with
  | zero => simp [tri]
  | succ k ih =>
    rw [tri, List.mem_append, ih]
    obtain ⟨a, b, c⟩ := t
    constructor
    · rintro (h | h)
      · exact ⟨h.1, h.2.1, h.2.2.1, by have := h.2.2.2.1; omega, h.2.2.2.2⟩
      · split at h
        · rename_i hc
          rw [List.mem_singleton] at h
          simp only [Prod.mk.injEq] at h
          obtain ⟨rfl, rfl, rfl⟩ := h
          simp only [Bool.and_eq_true, Bool.not_eq_true', decide_eq_true_eq] at hc
          exact ⟨rfl, rfl, hc.1, by simp, hc.2.1, hc.2.2⟩
        · cases h
    · rintro ⟨h1, h2, h3, h4, h5, h6⟩
      simp only at h1 h2 h3 h4 h6
      by_cases hk : c = k
      · right
        subst hk h1 h2
        rw [if_pos (by rw [h5, h6, decide_eq_true h3]; rfl)]; simp
      · left; exact ⟨h1, h2, h3, by simp only; omega, h5, h6⟩
theorem tri2_iff (n s i : Nat) (t : Tri) : t ∈ tri2 n s i ↔ t.1 = s ∧ t.2.1 < i ∧ t.2.1 < t.2.2 ∧ t.2.2 < n ∧ nbit s t.2.1 = false ∧ nbit s t.2.2 = false := by
  induction i with
  | zero => simp [tri2]
  | succ i ih =>
    rw [tri2, List.mem_append, ih, tri_iff]
    constructor
    · rintro (h | h)
      · exact ⟨h.1, by omega, h.2.2⟩
      · have e := h.2.1
        exact ⟨h.1, by omega, by omega, h.2.2.2.1, by rw [e]; exact h.2.2.2.2.1, h.2.2.2.2.2⟩
    · rintro ⟨h1, h2, h3, h4, h5, h6⟩
      by_cases hk : t.2.1 = i
      · right; exact ⟨h1, hk, by omega, h4, by rw [← hk]; exact h5, h6⟩
      · left; exact ⟨h1, by omega, h3, h4, h5, h6⟩
theorem tri3_iff (n s : Nat) (t : Tri) : t ∈ tri3 n s ↔ t.1 < s ∧ t.2.1 < t.2.2 ∧ t.2.2 < n ∧ nbit t.1 t.2.1 = false ∧ nbit t.1 t.2.2 = false := by
  induction s with
  | zero => simp [tri3]
  | succ s ih =>
    rw [tri3, List.mem_append, ih, tri2_iff]
    constructor
    · rintro (h | h)
      · exact ⟨by omega, h.2⟩
      · have e := h.1
        rw [e]
        exact ⟨by omega, h.2.2⟩
    · rintro ⟨h1, h2, h3, h4, h5⟩
      by_cases hk : t.1 = s
      · right; rw [hk] at h4 h5; exact ⟨hk, by omega, h2, h3, h4, h5⟩
      · left; exact ⟨by omega, h2, h3, h4, h5⟩
theorem exL_swap (l : List Int) (s i k : Nat) : exL l s i k = exL l s k i := by
  unfold exL
  rw [Nat.or_comm (setBit s i) (setBit s k)]
  omega
theorem gap_other (n : Nat) (l : List Int) (N : Nat) : most0 ((trk3 n N).map (exT l)) 0 = most0 ((tri3 n N).map (exT l)) 0 := by
  refine most0_eq _ _ _ (fun x hx => ?_) (fun x hx => ?_)
  · obtain ⟨⟨s, i, k⟩, h1, rfl⟩ := List.mem_map.1 hx
    have h2 := (trk3_iff _ _ _).1 h1
    simp only at h2
    exact List.mem_map.2 ⟨(s, k, i), (tri3_iff _ _ _).2 (by simp only; exact ⟨h2.1, h2.2.2.1, h2.2.1, h2.2.2.2.2, h2.2.2.2.1⟩), exL_swap l s k i⟩
  · obtain ⟨⟨s, i, k⟩, h1, rfl⟩ := List.mem_map.1 hx
    have h2 := (tri3_iff _ _ _).1 h1
    simp only at h2
    exact List.mem_map.2 ⟨(s, k, i), (trk3_iff _ _ _).2 (by simp only; exact ⟨h2.1, h2.2.2.1, h2.2.1, h2.2.2.2.2, h2.2.2.2.1⟩), exL_swap l s k i⟩
theorem gapT_most (n : Nat) (l : List Int) : gapT n l = most0 ((trk3 n (2 ^ n)).map (exT l)) 0 := by
  unfold gapT
  rw [gap_run, gap_other]
theorem most0_bd (X : List Int) (h : ∀ x ∈ X, x ≤ 4000) : 0 ≤ most0 X 0 ∧ most0 X 0 ≤ 4000 := by
  have h1 := (most0_ge X 0).1
  rcases most0_is X 0 with h2 | h2
  · omega
  · exact ⟨h1, h _ h2⟩
theorem gapN_bd (n : Int) (l : List Int) : 0 ≤ gapN n l ∧ gapN n l ≤ 4000 := by
  unfold gapN
  split
  · rename_i hf
    obtain ⟨h0, h5, hlen, hlb⟩ := funOk hf
    have hl2 : l.length = 2 ^ n.toNat := by exact_mod_cast hlen
    unfold gapT
    rw [gap_run]
    refine most0_bd _ (fun x hx => ?_)
    obtain ⟨t, h1, rfl⟩ := List.mem_map.1 hx
    have h2 := tri3_mem _ _ t h1
    exact (exL_bd n.toNat l hl2 hlb t.1 t.2.1 t.2.2 h2.1 (by omega) (by omega)).2
  · omega
end Go.Proofs.YtpaoiiiceekkkaaGreatDoor
end
section
namespace Go.Proofs.YtpaoiiiceekkkaaGreatDoor
open Go.RowKit Go.G5

def yesT (b : Bool) (x : ByteArray) : ByteArray := if b then x else ByteArray.empty
theorem join_yes (xs : List ByteArray) (h : xs ≠ []) (b : Bool) (x y : ByteArray) (hy : y = space ++ x) : joinB space (xs ++ yes b x) = joinB space xs ++ yesT b y := by
  subst hy
  cases b with
  | false =>
    show joinB space (xs ++ []) = joinB space xs ++ ByteArray.empty
    rw [List.append_nil]
    exact ba_ext (by rw [ba_app]; simp)
  | true =>
    show joinB space (xs ++ [x]) = joinB space xs ++ (space ++ x)
    rw [joinB_snoc _ _ _ h]
    refine ba_ext ?_
    simp only [ba_app, List.append_assoc]
theorem yes_ne (xs : List ByteArray) (h : xs ≠ []) (b : Bool) (x : ByteArray) : xs ++ yes b x ≠ [] := fun e => h (List.append_eq_nil_iff.1 e).1
def fnHead (F G M S : ByteArray) : List ByteArray := [⟨#[102, 117, 110, 99, 116, 105, 111, 110]⟩, F, ⟨#[103, 97, 112]⟩, G, ⟨#[109, 97, 115, 115, 101, 115]⟩, M, ⟨#[115, 104, 97, 112, 108, 101, 121]⟩, S]
def fnHeadT (F G M S : ByteArray) : ByteArray := ⟨#[102, 117, 110, 99, 116, 105, 111, 110, 32]⟩ ++ F ++ ⟨#[32, 103, 97, 112, 32]⟩ ++ G ++ ⟨#[32, 109, 97, 115, 115, 101, 115, 32]⟩ ++ M ++ ⟨#[32, 115, 104, 97, 112, 108, 101, 121, 32]⟩ ++ S
theorem fnHead_is (F G M S : ByteArray) : joinB space (fnHead F G M S) = fnHeadT F G M S := by
  unfold fnHead fnHeadT
  simp only [joinB_cons2, joinB_one]
  refine ba_ext ?_
  simp [space]
def fnTail (F G M S : ByteArray) (b0 b1 b2 b3 b4 b5 b6 : Bool) : List ByteArray := fnHead F G M S ++ yes b0 ⟨#[115, 117, 98, 109, 111, 100, 117, 108, 97, 114]⟩ ++ yes b1 ⟨#[115, 117, 112, 101, 114, 109, 111, 100, 117, 108, 97, 114]⟩ ++ yes b2 ⟨#[105, 110, 99, 114, 101, 97, 115, 105, 110, 103]⟩ ++ yes b3 ⟨#[103, 114, 111, 117, 110, 100, 101, 100]⟩ ++ yes b4 ⟨#[115, 121, 109, 109, 101, 116, 114, 105, 99]⟩ ++ yes b5 ⟨#[112, 111, 108, 121, 109, 97, 116, 114, 111, 105, 100]⟩ ++ yes b6 ⟨#[109, 97, 116, 114, 111, 105, 100]⟩
def fnTailT (F G M S : ByteArray) (b0 b1 b2 b3 b4 b5 b6 : Bool) : ByteArray := fnHeadT F G M S ++ yesT b0 ⟨#[32, 115, 117, 98, 109, 111, 100, 117, 108, 97, 114]⟩ ++ yesT b1 ⟨#[32, 115, 117, 112, 101, 114, 109, 111, 100, 117, 108, 97, 114]⟩ ++ yesT b2 ⟨#[32, 105, 110, 99, 114, 101, 97, 115, 105, 110, 103]⟩ ++ yesT b3 ⟨#[32, 103, 114, 111, 117, 110, 100, 101, 100]⟩ ++ yesT b4 ⟨#[32, 115, 121, 109, 109, 101, 116, 114, 105, 99]⟩ ++ yesT b5 ⟨#[32, 112, 111, 108, 121, 109, 97, 116, 114, 111, 105, 100]⟩ ++ yesT b6 ⟨#[32, 109, 97, 116, 114, 111, 105, 100]⟩
theorem fnTail_is (F G M S : ByteArray) (b0 b1 b2 b3 b4 b5 b6 : Bool) : joinB space (fnTail F G M S b0 b1 b2 b3 b4 b5 b6) = fnTailT F G M S b0 b1 b2 b3 b4 b5 b6 := by
  have h0 : fnHead F G M S ≠ [] := by simp [fnHead]
  have h1 := yes_ne _ h0 b0 ⟨#[115, 117, 98, 109, 111, 100, 117, 108, 97, 114]⟩
  have h2 := yes_ne _ h1 b1 ⟨#[115, 117, 112, 101, 114, 109, 111, 100, 117, 108, 97, 114]⟩
  have h3 := yes_ne _ h2 b2 ⟨#[105, 110, 99, 114, 101, 97, 115, 105, 110, 103]⟩
  have h4 := yes_ne _ h3 b3 ⟨#[103, 114, 111, 117, 110, 100, 101, 100]⟩
  have h5 := yes_ne _ h4 b4 ⟨#[115, 121, 109, 109, 101, 116, 114, 105, 99]⟩
  have h6 := yes_ne _ h5 b5 ⟨#[112, 111, 108, 121, 109, 97, 116, 114, 111, 105, 100]⟩
  unfold fnTail fnTailT
  rw [join_yes _ h6 b6 _ ⟨#[32, 109, 97, 116, 114, 111, 105, 100]⟩ rfl, join_yes _ h5 b5 _ ⟨#[32, 112, 111, 108, 121, 109, 97, 116, 114, 111, 105, 100]⟩ rfl, join_yes _ h4 b4 _ ⟨#[32, 115, 121, 109, 109, 101, 116, 114, 105, 99]⟩ rfl, join_yes _ h3 b3 _ ⟨#[32, 103, 114, 111, 117, 110, 100, 101, 100]⟩ rfl, join_yes _ h2 b2 _ ⟨#[32, 105, 110, 99, 114, 101, 97, 115, 105, 110, 103]⟩ rfl, join_yes _ h1 b1 _ ⟨#[32, 115, 117, 112, 101, 114, 109, 111, 100, 117, 108, 97, 114]⟩ rfl, join_yes _ h0 b0 _ ⟨#[32, 115, 117, 98, 109, 111, 100, 117, 108, 97, 114]⟩ rfl, fnHead_is]
theorem yes_len (b : Bool) (x : ByteArray) : (yes b x).length ≤ 1 := by cases b <;> simp [yes]
theorem yesT_size (b : Bool) (x : ByteArray) : (yesT b x).size ≤ x.size := by cases b <;> simp [yesT]
theorem numB_size (l : List Int) (h : ∀ x ∈ l, InR x) : (numB l).size ≤ 22 * l.length + 4 := by
  unfold numB
  split
  · show 4 ≤ _; omega
  · have := commas_size l h; omega
theorem fnHeadT_size (F G M S : ByteArray) (hF : F.size ≤ 1000) (hG : G.size ≤ 1000) (hM : M.size ≤ 1000) (hS : S.size ≤ 1000) : (fnHeadT F G M S).size ≤ 4100 := by
  unfold fnHeadT
  simp only [ByteArray.size_append]
  have e1 : (⟨#[102, 117, 110, 99, 116, 105, 111, 110, 32]⟩ : ByteArray).size = 9 := rfl
  have e2 : (⟨#[32, 103, 97, 112, 32]⟩ : ByteArray).size = 5 := rfl
  have e3 : (⟨#[32, 109, 97, 115, 115, 101, 115, 32]⟩ : ByteArray).size = 8 := rfl
  have e4 : (⟨#[32, 115, 104, 97, 112, 108, 101, 121, 32]⟩ : ByteArray).size = 9 := rfl
  omega
theorem massesOf_few {n : Int} {l : List Int} (hf : isFunB n l = true) : (massesOf n l).length ≤ 32 := by
  obtain ⟨N, _, _, _, h32, _⟩ := fun_nat hf
  unfold massesOf
  rw [if_pos hf, masses_len]; exact h32
theorem shapOf_few {n : Int} {l : List Int} (hf : isFunB n l = true) : (shapOf n l).length ≤ 5 := by
  obtain ⟨N, rfl, h5, _⟩ := fun_nat hf
  unfold shapOf
  rw [if_pos hf]
  simp [shapL]; omega
def funLn (n : Int) (l : List Int) : ByteArray := if isFunB n l then joinB spaceB (fnTail (funTx n l) (itoaB (gapN n l)) (numB (massesOf n l)) (numB (shapOf n l)) (subB n l) (supB n l) (incB n l) (isGrB n l) (symB n l) (polyB n l) (rankB n l)) else ByteArray.empty
theorem funLn_join {n : Int} {l : List Int} (hf : isFunB n l = true) : funLn n l = joinB spaceB (fnTail (funTx n l) (itoaB (gapN n l)) (numB (massesOf n l)) (numB (shapOf n l)) (subB n l) (supB n l) (incB n l) (isGrB n l) (symB n l) (polyB n l) (rankB n l)) := by unfold funLn; rw [if_pos hf]
theorem fnTailT_size (F G M S : ByteArray) (b0 b1 b2 b3 b4 b5 b6 : Bool) (hF : F.size ≤ 1000) (hG : G.size ≤ 1000) (hM : M.size ≤ 1000) (hS : S.size ≤ 1000) : (fnTailT F G M S b0 b1 b2 b3 b4 b5 b6).size ≤ 5000 := by
  have h0 := fnHeadT_size F G M S hF hG hM hS
  unfold fnTailT
  simp only [ByteArray.size_append]
  have s0 := yesT_size b0 (⟨#[32, 115, 117, 98, 109, 111, 100, 117, 108, 97, 114]⟩ : ByteArray)
  have t0 : (⟨#[32, 115, 117, 98, 109, 111, 100, 117, 108, 97, 114]⟩ : ByteArray).size = 11 := rfl
  have s1 := yesT_size b1 (⟨#[32, 115, 117, 112, 101, 114, 109, 111, 100, 117, 108, 97, 114]⟩ : ByteArray)
  have t1 : (⟨#[32, 115, 117, 112, 101, 114, 109, 111, 100, 117, 108, 97, 114]⟩ : ByteArray).size = 13 := rfl
  have s2 := yesT_size b2 (⟨#[32, 105, 110, 99, 114, 101, 97, 115, 105, 110, 103]⟩ : ByteArray)
  have t2 : (⟨#[32, 105, 110, 99, 114, 101, 97, 115, 105, 110, 103]⟩ : ByteArray).size = 11 := rfl
  have s3 := yesT_size b3 (⟨#[32, 103, 114, 111, 117, 110, 100, 101, 100]⟩ : ByteArray)
  have t3 : (⟨#[32, 103, 114, 111, 117, 110, 100, 101, 100]⟩ : ByteArray).size = 9 := rfl
  have s4 := yesT_size b4 (⟨#[32, 115, 121, 109, 109, 101, 116, 114, 105, 99]⟩ : ByteArray)
  have t4 : (⟨#[32, 115, 121, 109, 109, 101, 116, 114, 105, 99]⟩ : ByteArray).size = 10 := rfl
  have s5 := yesT_size b5 (⟨#[32, 112, 111, 108, 121, 109, 97, 116, 114, 111, 105, 100]⟩ : ByteArray)
  have t5 : (⟨#[32, 112, 111, 108, 121, 109, 97, 116, 114, 111, 105, 100]⟩ : ByteArray).size = 12 := rfl
  have s6 := yesT_size b6 (⟨#[32, 109, 97, 116, 114, 111, 105, 100]⟩ : ByteArray)
  have t6 : (⟨#[32, 109, 97, 116, 114, 111, 105, 100]⟩ : ByteArray).size = 8 := rfl
  omega
theorem funLn_size (n : Int) (l : List Int) (hm : ∀ x ∈ massesOf n l, InR x) (hs : ∀ x ∈ shapOf n l, InR x) : (funLn n l).size ≤ 5000 := by
  unfold funLn
  split
  · rename_i hf
    have h1 := massesOf_few hf
    have h2 := shapOf_few hf
    have h3 := numB_size _ hm
    have h4 := numB_size _ hs
    have h5 := funTx_size n l
    have h6 := gapN_bd n l
    have h7 := itoaB_size (gapN n l) ⟨by omega, by omega⟩
    rw [show spaceB = space from rfl, fnTail_is]
    exact fnTailT_size _ _ _ _ _ _ _ _ _ _ _ (by omega) (by omega) (by omega) (by omega)
  · simp
end Go.Proofs.YtpaoiiiceekkkaaGreatDoor
end
section
namespace Go.Proofs.YtpaoiiiceekkkaaGreatDoor
open Go.RowKit Go.G5

def longer (b x : List Int) : List Int := if b.length < x.length then x else b
def okB (s u : Int) : Bool := s != 0 && iand s u == 0
def packS : List Int → Int → List Int → List Int → List Int
  | [], _, _, b => b
  | s :: r, u, c, b => if okB s u then packS r u c (longer b (packS r (ior u s) (c ++ [s]) (c ++ [s]))) else packS r u c b
def packV : List Int → Int → List Int → List Int → List Int
  | [], _, _, b => b
  | s :: r, u, c, b => if okB s u then packV r u c (packV r (ior u s) (c ++ [s]) (longer b (c ++ [s]))) else packV r u c b
theorem longer_assoc (a b c : List Int) : longer (longer a b) c = longer a (longer b c) := by
  unfold longer
  by_cases h1 : a.length < b.length
  · by_cases h2 : b.length < c.length
    · rw [if_pos h1, if_pos h2, if_pos (by omega)]
    · rw [if_pos h1, if_neg h2, if_pos h1]
  · by_cases h2 : b.length < c.length
    · rw [if_neg h1, if_pos h2]
    · rw [if_neg h1, if_neg h2, if_neg h1, if_neg (by omega)]
theorem packV_is : ∀ (r : List Int) (u : Int) (c b x : List Int), packV r u c (longer b x) = longer b (packS r u c x)
  | [], _, _, _, _ => rfl
  | s :: r, u, c, b, x => by
    rw [packV, packS]
    split
    · rw [packV_is r (ior u s) (c ++ [s]) (longer b x) (c ++ [s]), longer_assoc, packV_is r u c b]
    · exact packV_is r u c b x
theorem packS_len (N : Nat) : ∀ (r : List Int) (u : Int) (c b : List Int), c.length + r.length ≤ N → b.length ≤ N → (packS r u c b).length ≤ N
  | [], _, _, _, _, h => h
  | s :: r, u, c, b, h1, h2 => by
    rw [List.length_cons] at h1
    rw [packS]
    split
    · refine packS_len N r u c _ (by omega) ?_
      have h3 := packS_len N r (ior u s) (c ++ [s]) (c ++ [s]) (by simp; omega) (by simp; omega)
      unfold longer
      split <;> assumption
    · exact packS_len N r u c b (by omega) h2
theorem packS_mem (S : List Int) : ∀ (r : List Int) (u : Int) (c b : List Int), (∀ x ∈ r, x ∈ S) → (∀ x ∈ c, x ∈ S) → (∀ x ∈ b, x ∈ S) → ∀ x ∈ packS r u c b, x ∈ S
  | [], _, _, _, _, _, h => h
  | s :: r, u, c, b, h1, h2, h3 => by
    have h4 : ∀ x ∈ r, x ∈ S := fun x hx => h1 x (List.mem_cons_of_mem _ hx)
    have h5 : ∀ x ∈ c ++ [s], x ∈ S := fun x hx => by
      rcases List.mem_append.1 hx with h | h
      · exact h2 x h
      · rw [List.mem_singleton] at h; subst h; exact h1 x (by simp)
    rw [packS]
    split
    · refine packS_mem S r u c _ h4 h2 ?_
      have h6 := packS_mem S r (ior u s) (c ++ [s]) (c ++ [s]) h4 h5 h5
      unfold longer
      split <;> assumption
    · exact packS_mem S r u c b h4 h2 h3
def packL (l : List Int) : List Int := packS l 0 [] []
theorem packV_top (l : List Int) : packV l 0 [] [] = packL l := by
  have h := packV_is l 0 [] [] []
  have e : longer [] [] = ([] : List Int) := rfl
  rw [e] at h
  rw [h]
  unfold longer packL
  split
  · rfl
  · rename_i hn
    have h0 : (packS l 0 [] []).length = 0 := by simpa using hn
    exact (List.eq_nil_of_length_eq_zero h0).symm
def pkL (g : Int) (l : List Int) : List Int := if isFamB g l then packL l else []
end Go.Proofs.YtpaoiiiceekkkaaGreatDoor
end
section
namespace Go.Proofs.YtpaoiiiceekkkaaGreatDoor
open Go.RowKit Go.G5

/-- the first of the smallest sets of a list, from best on -/
def lessL : List Int → Int → Int
  | [], b => b
  | s :: r, b => lessL r (if pop s.toNat < pop b.toNat then s else b)
def tnOk (g : Int) (l : List Int) : Bool := isFamB g l && !((blkL g l).length == 0)
def tnS (g : Int) (l : List Int) : Int := if tnOk g l then lessL (blkL g l) ((blkL g l).getD 0 0) else 0
def tnN (g : Int) (l : List Int) : Int := if tnOk g l then ((pop (tnS g l).toNat : Nat) : Int) else 0
theorem lessL_mem (S : List Int) : ∀ (r : List Int) (b : Int), (∀ x ∈ r, x ∈ S) → b ∈ S → lessL r b ∈ S
  | [], _, _, h => h
  | s :: r, b, h1, h2 => by
    rw [lessL]
    refine lessL_mem S r _ (fun x hx => h1 x (List.mem_cons_of_mem _ hx)) ?_
    split
    · exact h1 s (by simp)
    · exact h2
theorem lessL_at (l : List Int) (j : Nat) (h : j < l.length) (b : Int) : lessL (l.drop j) b = lessL (l.drop (j + 1)) (if pop (l[j]).toNat < pop b.toNat then l[j] else b) := by
  rw [List.drop_eq_getElem_cons h, lessL]
theorem lessL_first (l : List Int) (h : 0 < l.length) : lessL (l.drop 1) l[0] = lessL l l[0] := by
  have := lessL_at l 0 h l[0]
  rw [List.drop_zero] at this
  rw [this]
  simp
theorem tnS_bd (g : Int) (l : List Int) : 0 ≤ tnS g l ∧ tnS g l < 64 := by
  unfold tnS
  split
  · rename_i h
    unfold tnOk at h
    simp only [Bool.and_eq_true, Bool.not_eq_true', beq_eq_false_iff_ne] at h
    have hl : 0 < (blkL g l).length := by have := h.2; omega
    refine blkL_bd g l _ (lessL_mem (blkL g l) _ _ (fun x hx => hx) ?_)
    rw [List.getD_eq_getElem?_getD, List.getElem?_eq_getElem hl]
    simp
  · omega
theorem tnN_bd (g : Int) (l : List Int) : 0 ≤ tnN g l ∧ tnN g l ≤ 8 := by
  unfold tnN
  have h := tnS_bd g l
  split
  · have := pop_le (tnS g l).toNat (by omega)
    omega
  · omega
theorem size_i (x : Int) (w : World) (h0 : 0 ≤ x) (h1 : x < 64) : Calls Tryz.prog 188 #[.int .i64 x] w fun e w' => e = .returned (.int .i64 ((pop x.toNat : Nat) : Int)) ∧ w = w' := by
  obtain ⟨n, rfl⟩ := Int.eq_ofNat_of_zero_le h0
  exact sizeOf_any n w (by omega)
theorem size_s (x : Int) (w : World) (h0 : 0 ≤ x) (h1 : x < 64) : Calls Tryz.prog 148 #[.int .i64 x] w fun e w' => e = .returned (.int .i64 ((pop x.toNat : Nat) : Int)) ∧ w = w' := by
  obtain ⟨n, rfl⟩ := Int.eq_ofNat_of_zero_le h0
  exact l2Size_any n w (by omega)
end Go.Proofs.YtpaoiiiceekkkaaGreatDoor
end
