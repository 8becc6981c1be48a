/- The line of a function: what is computed. Packings: what is computed. Laminar families. -/
import Derived.Test.YtipejodijbjpcaaGreatDoorQ22
section
namespace Go.Proofs.YtipejodijbjpcaaGreatDoor
open Go.RowKit Go.G5

def yesT (b : Bool) (x : ByteArray) : ByteArray := if b then x else ByteArray.empty
theorem join_yes (xs : List ByteArray) (h : xs ≠ []) (b : Bool) (x y : ByteArray) (hy : y = space ++ x) : joinB space (xs ++ yes b x) = joinB space xs ++ yesT b y := by
  subst hy
  cases b with
  | false =>
    show joinB space (xs ++ []) = joinB space xs ++ ByteArray.empty
    rw [List.append_nil]
    exact ba_ext (by rw [ba_app]; simp)
  | true =>
    show joinB space (xs ++ [x]) = joinB space xs ++ (space ++ x)
    rw [joinB_snoc _ _ _ h]
    refine ba_ext ?_
    simp only [ba_app, List.append_assoc]
theorem yes_ne (xs : List ByteArray) (h : xs ≠ []) (b : Bool) (x : ByteArray) : xs ++ yes b x ≠ [] := fun e => h (List.append_eq_nil_iff.1 e).1
def fnHead (F G M S : ByteArray) : List ByteArray := [⟨#[102, 117, 110, 99, 116, 105, 111, 110]⟩, F, ⟨#[103, 97, 112]⟩, G, ⟨#[109, 97, 115, 115, 101, 115]⟩, M, ⟨#[115, 104, 97, 112, 108, 101, 121]⟩, S]
def fnHeadT (F G M S : ByteArray) : ByteArray := ⟨#[102, 117, 110, 99, 116, 105, 111, 110, 32]⟩ ++ F ++ ⟨#[32, 103, 97, 112, 32]⟩ ++ G ++ ⟨#[32, 109, 97, 115, 115, 101, 115, 32]⟩ ++ M ++ ⟨#[32, 115, 104, 97, 112, 108, 101, 121, 32]⟩ ++ S
theorem fnHead_is (F G M S : ByteArray) : joinB space (fnHead F G M S) = fnHeadT F G M S := by
  unfold fnHead fnHeadT
  simp only [joinB_cons2, joinB_one]
  refine ba_ext ?_
  simp [space]
def fnTail (F G M S : ByteArray) (b0 b1 b2 b3 b4 b5 b6 : Bool) : List ByteArray := fnHead F G M S ++ yes b0 ⟨#[115, 117, 98, 109, 111, 100, 117, 108, 97, 114]⟩ ++ yes b1 ⟨#[115, 117, 112, 101, 114, 109, 111, 100, 117, 108, 97, 114]⟩ ++ yes b2 ⟨#[105, 110, 99, 114, 101, 97, 115, 105, 110, 103]⟩ ++ yes b3 ⟨#[103, 114, 111, 117, 110, 100, 101, 100]⟩ ++ yes b4 ⟨#[115, 121, 109, 109, 101, 116, 114, 105, 99]⟩ ++ yes b5 ⟨#[112, 111, 108, 121, 109, 97, 116, 114, 111, 105, 100]⟩ ++ yes b6 ⟨#[109, 97, 116, 114, 111, 105, 100]⟩
def fnTailT (F G M S : ByteArray) (b0 b1 b2 b3 b4 b5 b6 : Bool) : ByteArray := fnHeadT F G M S ++ yesT b0 ⟨#[32, 115, 117, 98, 109, 111, 100, 117, 108, 97, 114]⟩ ++ yesT b1 ⟨#[32, 115, 117, 112, 101, 114, 109, 111, 100, 117, 108, 97, 114]⟩ ++ yesT b2 ⟨#[32, 105, 110, 99, 114, 101, 97, 115, 105, 110, 103]⟩ ++ yesT b3 ⟨#[32, 103, 114, 111, 117, 110, 100, 101, 100]⟩ ++ yesT b4 ⟨#[32, 115, 121, 109, 109, 101, 116, 114, 105, 99]⟩ ++ yesT b5 ⟨#[32, 112, 111, 108, 121, 109, 97, 116, 114, 111, 105, 100]⟩ ++ yesT b6 ⟨#[32, 109, 97, 116, 114, 111, 105, 100]⟩
theorem fnTail_is (F G M S : ByteArray) (b0 b1 b2 b3 b4 b5 b6 : Bool) : joinB space (fnTail F G M S b0 b1 b2 b3 b4 b5 b6) = fnTailT F G M S b0 b1 b2 b3 b4 b5 b6 := by
  have h0 : fnHead F G M S ≠ [] := by simp [fnHead]
  have h1 := yes_ne _ h0 b0 ⟨#[115, 117, 98, 109, 111, 100, 117, 108, 97, 114]⟩
  have h2 := yes_ne _ h1 b1 ⟨#[115, 117, 112, 101, 114, 109, 111, 100, 117, 108, 97, 114]⟩
  have h3 := yes_ne _ h2 b2 ⟨#[105, 110, 99, 114, 101, 97, 115, 105, 110, 103]⟩
  have h4 := yes_ne _ h3 b3 ⟨#[103, 114, 111, 117, 110, 100, 101, 100]⟩
  have h5 := yes_ne _ h4 b4 ⟨#[115, 121, 109, 109, 101, 116, 114, 105, 99]⟩
  have h6 := yes_ne _ h5 b5 ⟨#[112, 111, 108, 121, 109, 97, 116, 114, 111, 105, 100]⟩
  unfold fnTail fnTailT
  rw [join_yes _ h6 b6 _ ⟨#[32, 109, 97, 116, 114, 111, 105, 100]⟩ rfl, join_yes _ h5 b5 _ ⟨#[32, 112, 111, 108, 121, 109, 97, 116, 114, 111, 105, 100]⟩ rfl, join_yes _ h4 b4 _ ⟨#[32, 115, 121, 109, 109, 101, 116, 114, 105, 99]⟩ rfl, join_yes _ h3 b3 _ ⟨#[32, 103, 114, 111, 117, 110, 100, 101, 100]⟩ rfl, join_yes _ h2 b2 _ ⟨#[32, 105, 110, 99, 114, 101, 97, 115, 105, 110, 103]⟩ rfl, join_yes _ h1 b1 _ ⟨#[32, 115, 117, 112, 101, 114, 109, 111, 100, 117, 108, 97, 114]⟩ rfl, join_yes _ h0 b0 _ ⟨#[32, 115, 117, 98, 109, 111, 100, 117, 108, 97, 114]⟩ rfl, fnHead_is]
theorem yes_len (b : Bool) (x : ByteArray) : (yes b x).length ≤ 1 := by cases b <;> simp [yes]
theorem yesT_size (b : Bool) (x : ByteArray) : (yesT b x).size ≤ x.size := by cases b <;> simp [yesT]
theorem numB_size (l : List Int) (h : ∀ x ∈ l, InR x) : (numB l).size ≤ 22 * l.length + 4 := by
  unfold numB
  split
  · show 4 ≤ _; omega
  · have := commas_size l h; omega
theorem fnHeadT_size (F G M S : ByteArray) (hF : F.size ≤ 1000) (hG : G.size ≤ 1000) (hM : M.size ≤ 1000) (hS : S.size ≤ 1000) : (fnHeadT F G M S).size ≤ 4100 := by
  unfold fnHeadT
  simp only [ByteArray.size_append]
  have e1 : (⟨#[102, 117, 110, 99, 116, 105, 111, 110, 32]⟩ : ByteArray).size = 9 := rfl
  have e2 : (⟨#[32, 103, 97, 112, 32]⟩ : ByteArray).size = 5 := rfl
  have e3 : (⟨#[32, 109, 97, 115, 115, 101, 115, 32]⟩ : ByteArray).size = 8 := rfl
  have e4 : (⟨#[32, 115, 104, 97, 112, 108, 101, 121, 32]⟩ : ByteArray).size = 9 := rfl
  omega
theorem massesOf_few {n : Int} {l : List Int} (hf : isFunB n l = true) : (massesOf n l).length ≤ 32 := by
  obtain ⟨N, _, _, _, h32, _⟩ := fun_nat hf
  unfold massesOf
  rw [if_pos hf, masses_len]; exact h32
theorem shapOf_few {n : Int} {l : List Int} (hf : isFunB n l = true) : (shapOf n l).length ≤ 5 := by
  obtain ⟨N, rfl, h5, _⟩ := fun_nat hf
  unfold shapOf
  rw [if_pos hf]
  simp [shapL]; omega
def funLn (n : Int) (l : List Int) : ByteArray := if isFunB n l then joinB spaceB (fnTail (funTx n l) (itoaB (gapN n l)) (numB (massesOf n l)) (numB (shapOf n l)) (subB n l) (supB n l) (incB n l) (isGrB n l) (symB n l) (polyB n l) (rankB n l)) else ByteArray.empty
theorem funLn_join {n : Int} {l : List Int} (hf : isFunB n l = true) : funLn n l = joinB spaceB (fnTail (funTx n l) (itoaB (gapN n l)) (numB (massesOf n l)) (numB (shapOf n l)) (subB n l) (supB n l) (incB n l) (isGrB n l) (symB n l) (polyB n l) (rankB n l)) := by unfold funLn; rw [if_pos hf]
theorem fnTailT_size (F G M S : ByteArray) (b0 b1 b2 b3 b4 b5 b6 : Bool) (hF : F.size ≤ 1000) (hG : G.size ≤ 1000) (hM : M.size ≤ 1000) (hS : S.size ≤ 1000) : (fnTailT F G M S b0 b1 b2 b3 b4 b5 b6).size ≤ 5000 := by
  have h0 := fnHeadT_size F G M S hF hG hM hS
  unfold fnTailT
  simp only [ByteArray.size_append]
  have s0 := yesT_size b0 (⟨#[32, 115, 117, 98, 109, 111, 100, 117, 108, 97, 114]⟩ : ByteArray)
  have t0 : (⟨#[32, 115, 117, 98, 109, 111, 100, 117, 108, 97, 114]⟩ : ByteArray).size = 11 := rfl
  have s1 := yesT_size b1 (⟨#[32, 115, 117, 112, 101, 114, 109, 111, 100, 117, 108, 97, 114]⟩ : ByteArray)
  have t1 : (⟨#[32, 115, 117, 112, 101, 114, 109, 111, 100, 117, 108, 97, 114]⟩ : ByteArray).size = 13 := rfl
  have s2 := yesT_size b2 (⟨#[32, 105, 110, 99, 114, 101, 97, 115, 105, 110, 103]⟩ : ByteArray)
  have t2 : (⟨#[32, 105, 110, 99, 114, 101, 97, 115, 105, 110, 103]⟩ : ByteArray).size = 11 := rfl
  have s3 := yesT_size b3 (⟨#[32, 103, 114, 111, 117, 110, 100, 101, 100]⟩ : ByteArray)
  have t3 : (⟨#[32, 103, 114, 111, 117, 110, 100, 101, 100]⟩ : ByteArray).size = 9 := rfl
  have s4 := yesT_size b4 (⟨#[32, 115, 121, 109, 109, 101, 116, 114, 105, 99]⟩ : ByteArray)
  have t4 : (⟨#[32, 115, 121, 109, 109, 101, 116, 114, 105, 99]⟩ : ByteArray).size = 10 := rfl
  have s5 := yesT_size b5 (⟨#[32, 112, 111, 108, 121, 109, 97, 116, 114, 111, 105, 100]⟩ : ByteArray)
  have t5 : (⟨#[32, 112, 111, 108, 121, 109, 97, 116, 114, 111, 105, 100]⟩ : ByteArray).size = 12 := rfl
  have s6 := yesT_size b6 (⟨#[32, 109, 97, 116, 114, 111, 105, 100]⟩ : ByteArray)
  have t6 : (⟨#[32, 109, 97, 116, 114, 111, 105, 100]⟩ : ByteArray).size = 8 := rfl
  omega
theorem funLn_size (n : Int) (l : List Int) (hm : ∀ x ∈ massesOf n l, InR x) (hs : ∀ x ∈ shapOf n l, InR x) : (funLn n l).size ≤ 5000 := by
  unfold funLn
  split
  · rename_i hf
    have h1 := massesOf_few hf
    have h2 := shapOf_few hf
    have h3 := numB_size _ hm
    have h4 := numB_size _ hs
    have h5 := funTx_size n l
    have h6 := gapN_bd n l
    have h7 := itoaB_size (gapN n l) ⟨by omega, by omega⟩
    rw [show spaceB = space from rfl, fnTail_is]
    exact fnTailT_size _ _ _ _ _ _ _ _ _ _ _ (by omega) (by omega) (by omega) (by omega)
  · simp
end Go.Proofs.YtipejodijbjpcaaGreatDoor
end
section
namespace Go.Proofs.YtipejodijbjpcaaGreatDoor
open Go.RowKit Go.G5

def longer (b x : List Int) : List Int := if b.length < x.length then x else b
def okB (s u : Int) : Bool := s != 0 && iand s u == 0
def packS : List Int → Int → List Int → List Int → List Int
  | [], _, _, b => b
  | s :: r, u, c, b => if okB s u then packS r u c (longer b (packS r (ior u s) (c ++ [s]) (c ++ [s]))) else packS r u c b
def packV : List Int → Int → List Int → List Int → List Int
  | [], _, _, b => b
  | s :: r, u, c, b => if okB s u then packV r u c (packV r (ior u s) (c ++ [s]) (longer b (c ++ [s]))) else packV r u c b
theorem longer_assoc (a b c : List Int) : longer (longer a b) c = longer a (longer b c) := by
  unfold longer
  by_cases h1 : a.length < b.length
  · by_cases h2 : b.length < c.length
    · rw [if_pos h1, if_pos h2, if_pos (by omega)]
    · rw [if_pos h1, if_neg h2, if_pos h1]
  · by_cases h2 : b.length < c.length
    · rw [if_neg h1, if_pos h2]
    · rw [if_neg h1, if_neg h2, if_neg h1, if_neg (by omega)]
theorem packV_is : ∀ (r : List Int) (u : Int) (c b x : List Int), packV r u c (longer b x) = longer b (packS r u c x)
  | [], _, _, _, _ => rfl
  | s :: r, u, c, b, x => by
    rw [packV, packS]
    split
    · rw [packV_is r (ior u s) (c ++ [s]) (longer b x) (c ++ [s]), longer_assoc, packV_is r u c b]
    · exact packV_is r u c b x
theorem packS_len (N : Nat) : ∀ (r : List Int) (u : Int) (c b : List Int), c.length + r.length ≤ N → b.length ≤ N → (packS r u c b).length ≤ N
  | [], _, _, _, _, h => h
  | s :: r, u, c, b, h1, h2 => by
    rw [List.length_cons] at h1
    rw [packS]
    split
    · refine packS_len N r u c _ (by omega) ?_
      have h3 := packS_len N r (ior u s) (c ++ [s]) (c ++ [s]) (by simp; omega) (by simp; omega)
      unfold longer
      split <;> assumption
    · exact packS_len N r u c b (by omega) h2
theorem packS_mem (S : List Int) : ∀ (r : List Int) (u : Int) (c b : List Int), (∀ x ∈ r, x ∈ S) → (∀ x ∈ c, x ∈ S) → (∀ x ∈ b, x ∈ S) → ∀ x ∈ packS r u c b, x ∈ S
  | [], _, _, _, _, _, h => h
  | s :: r, u, c, b, h1, h2, h3 => by
    have h4 : ∀ x ∈ r, x ∈ S := fun x hx => h1 x (List.mem_cons_of_mem _ hx)
    have h5 : ∀ x ∈ c ++ [s], x ∈ S := fun x hx => by
      rcases List.mem_append.1 hx with h | h
      · exact h2 x h
      · rw [List.mem_singleton] at h; subst h; exact h1 x (by simp)
    rw [packS]
    split
    · refine packS_mem S r u c _ h4 h2 ?_
      have h6 := packS_mem S r (ior u s) (c ++ [s]) (c ++ [s]) h4 h5 h5
      unfold longer
      split <;> assumption
    · exact packS_mem S r u c b h4 h2 h3
def packL (l : List Int) : List Int := packS l 0 [] []
theorem packV_top (l : List Int) : packV l 0 [] [] = packL l := by
  have h := packV_is l 0 [] [] []
  have e : longer [] [] = ([] : List Int) := rfl
  rw [e] at h
  rw [h]
  unfold longer packL
  split
  · rfl
  · rename_i hn
    have h0 : (packS l 0 [] []).length = 0 := by simpa using hn
    exact (List.eq_nil_of_length_eq_zero h0).symm
def pkL (g : Int) (l : List Int) : List Int := if isFamB g l then packL l else []
end Go.Proofs.YtipejodijbjpcaaGreatDoor
end
section
namespace Go.Proofs.YtipejodijbjpcaaGreatDoor
open Go.RowKit Go.G5

def clashI (a b : Int) : Bool := iand a b != 0 && idif a b != 0 && idif b a != 0
def clashS (a b : Int) : Bool := iand a b != 0 && iand a b != a && iand a b != b
def lamI (l : List Int) : Bool := allTo (fun i => allTo (fun j => decide (j ≤ i) || !clashI (l.getD i 0) (l.getD j 0)) l.length) l.length
def lamB (g : Int) (l : List Int) : Bool := isFamB g l && lamI l
def lamS (l : List Int) : Bool := allTo (fun i => allTo (fun k => !clashS (l.getD i 0) (l.getD k 0)) i) l.length
theorem allTo_of {p : Nat → Bool} {n : Nat} (h : ∀ k, k < n → p k = true) : allTo p n = true := by
  induction n with
  | zero => rfl
  | succ n ih => exact allTo_succ (ih fun k hk => h k (by omega)) (h n (by omega))

set_option maxHeartbeats 400000 in
theorem clash_any (a b : Int) (w : World) (ha : 0 ≤ a ∧ a < 64) (hb : 0 ≤ b ∧ b < 64) :
    Calls Tryz.prog 308 #[.int .i64 a, .int .i64 b] w fun e w' => e = .returned (.bool (clashI a b)) ∧ w = w' := by
  have hA := iand_is ha.1 (show a < 4611686018427387904 by omega) hb.1 (by omega)
  have hB := idif_is ha.1 ha.2 hb.1 hb.2
  have hC := idif_is hb.1 hb.2 ha.1 ha.2
  obtain ⟨x, hx⟩ : ∃ x, x = iand a b := ⟨_, rfl⟩
  obtain ⟨y, hy⟩ : ∃ y, y = idif a b := ⟨_, rfl⟩
  obtain ⟨z, hz⟩ : ∃ z, z = idif b a := ⟨_, rfl⟩
  rw [← hx] at hA
  rw [← hy] at hB
  rw [← hz] at hC
  have hr : clashI a b = ((x != 0) && (y != 0) && (z != 0)) := by unfold clashI; rw [hx, hy, hz]
  have HR := Lib.hid hr
  clear hr hx hy hz
  go_enter Tryz.func308, Tryz.ntmps308
  cases h1 : (x != 0) with
  | false =>
    go_wp2
    go_ret
    exact ⟨ret_bool (by rw [HR.out, h1]; rfl), rfl⟩
  | true =>
    cases h2 : (y != 0) with
    | false =>
      go_wp2
      go_ret
      exact ⟨ret_bool (by rw [HR.out, h1, h2]; rfl), rfl⟩
    | true =>
      go_wp2
      go_ret
      exact ⟨ret_bool (by rw [HR.out, h1, h2]; rfl), rfl⟩

set_option maxHeartbeats 1000000 in
theorem firstClash_any (l : List Int) (v : Value) (w : World) (hv : Ints w v l) (hm : ∀ x ∈ l, 0 ≤ x ∧ x < 64) :
    Calls Tryz.prog 230 #[v] w fun e w' => (∃ x y, e = .returned (.tuple #[.int .i64 x, .int .i64 y, .bool (!lamI l)])) ∧ w = w' := by
  obtain ⟨a, b, off, c, rfl, hlen, hix, hc, hb⟩ := hv.view Tryz.prog 22 3 Tryz.underlying22 intElem
  have HM := Lib.hid hm
  clear hm
  go_enter Tryz.func230, Tryz.ntmps230
  go_wp2
  go_loop [10] (fun i => ∃ k : Nat, k ≤ l.length ∧ i = .int .i64 k ∧ allTo (fun i => allTo (fun j => decide (j ≤ i) || !clashI (l.getD i 0) (l.getD j 0)) l.length) k = true) (fun i => l.length - (intOf i).toNat)
  case atStart => exact ⟨0, Nat.zero_le _, rfl, rfl⟩
  case round =>
    obtain ⟨k, hk, rfl, hall⟩ := hrel
    have H := Lib.hid hall
    clear hall
    by_cases hlt : k < l.length
    · have hlk := HM.out _ (List.getElem_mem hlt)
      go_wp2
      go_loop [7] (fun j => ∃ q : Nat, k + 1 ≤ q ∧ q ≤ l.length ∧ j = .int .i64 q ∧ allTo (fun j => decide (j ≤ k) || !clashI (l.getD k 0) (l.getD j 0)) q = true) (fun j => l.length - (intOf j).toNat)
      case atStart => exact ⟨k + 1, by omega, by omega, by go_num, allTo_of fun j hj => by simp [show j ≤ k by omega]⟩
      case round =>
        obtain ⟨q, hkq, hq, rfl, hin⟩ := hrel
        have HI := Lib.hid hin
        clear hin
        by_cases hql : q < l.length
        · have hlq := HM.out _ (List.getElem_mem hql)
          have hcl := clash_any l[k] l[q] w hlk hlq
          cases hz : clashI l[k] l[q] with
          | true =>
            have hp : (decide (q ≤ k) || !clashI (l.getD k 0) (l.getD q 0)) = false := by rw [getD_at l k hlt, getD_at l q hql, hz]; simp; omega
            have hx : lamI l = false := allTo_false (p := fun i => allTo (fun j => decide (j ≤ i) || !clashI (l.getD i 0) (l.getD j 0)) l.length) hlt (allTo_false (p := fun j => decide (j ≤ k) || !clashI (l.getD k 0) (l.getD j 0)) hql hp)
            have HX := Lib.hid hx
            clear hp hx
            rw [hz] at hcl
            go_wp2_with (go_at_call 308; refine hcl.mono ?_; rintro e w' ⟨rfl, rfl⟩)
            refine bodyPost_ret (v := .tuple #[.int .i64 k, .int .i64 q, .bool true]) (by simp [results, Tryz.results230, go_sem]) rfl ⟨⟨_, _, by rw [HX.out]; rfl⟩, rfl⟩
          | false =>
            have hp : (decide (q ≤ k) || !clashI (l.getD k 0) (l.getD q 0)) = true := by rw [getD_at l k hlt, getD_at l q hql, hz]; simp
            have HP := Lib.hid hp
            clear hp
            rw [hz] at hcl
            go_wp2_with (go_at_call 308; refine hcl.mono ?_; rintro e w' ⟨rfl, rfl⟩)
            go_round
            case rel => exact ⟨q + 1, by omega, by omega, by go_num, allTo_succ HI.out HP.out⟩
            case measure => simp [intOf]; omega
        · go_wp2
          go_round
          case rel => exact ⟨k + 1, by omega, by go_num, allTo_succ H.out (by rw [show l.length = q by omega]; exact HI.out)⟩
          case measure => simp [intOf]; omega
    · have hx : lamI l = true := by unfold lamI; rw [← show k = l.length by omega]; exact (show k = l.length by omega) ▸ H.out
      have HX := Lib.hid hx
      clear hx
      go_wp2
      refine bodyPost_ret (v := .tuple #[.int .i64 0, .int .i64 0, .bool false]) (by simp [results, Tryz.results230, go_sem]) rfl ⟨⟨_, _, by rw [HX.out]; rfl⟩, rfl⟩

set_option maxHeartbeats 1000000 in
theorem isLaminar_any (g : Int) (l : List Int) (v : Value) (w : World) (hv : Ints w v l) :
    Calls Tryz.prog 100 #[.agg #[.int .i64 g, v]] w fun e w' => e = .returned (.bool (lamB g l)) ∧ Below w.heap.size w w' := by
  obtain ⟨a, c, rfl⟩ := hv.shape
  have X0 := Box2.new w g (.slice a l.length c) 27
  go_enter Tryz.func100, Tryz.ntmps100
  go_wp2_with fail
  refine (isFamI_any g l _ _ (hv.alloc _)).mono ?_
  rintro e w1 ⟨rfl, hb1⟩
  obtain ⟨d0, d1, B1, z1⟩ := X0.after hb1
  have hv1 := hv.below B1 (Nat.le_refl _)
  clear hb1 X0
  cases hf : isFamB g l with
  | false =>
    have hx : lamB g l = false := by unfold lamB; rw [hf]; rfl
    have HX := Lib.hid hx
    clear hx
    go_wp2
    go_ret
    exact ⟨by rw [HX.out]; rfl, B1⟩
  | true =>
    have hx : lamB g l = lamI l := by unfold lamB; rw [hf]; rfl
    have hcl := firstClash_any l _ w1 hv1 (fam_mem hf)
    have HX := Lib.hid hx
    clear hx
    go_wp2_with (go_at_call 230; refine hcl.mono ?_; rintro e w' ⟨⟨x, y, rfl⟩, rfl⟩)
    go_ret
    exact ⟨ret_bool (by rw [HX.out]), B1⟩

set_option maxHeartbeats 1000000 in
theorem l16Laminar_any (l : List Int) (v : Value) (w : World) (hv : Ints w v l) (hm : ∀ x ∈ l, 0 ≤ x ∧ x < 64) :
    Calls Tryz.prog 220 #[v] w fun e w' => e = .returned (.bool (lamS l)) ∧ Below w.heap.size w w' := by
  obtain ⟨a, b, off, c, rfl, hlen, hix, hc, hb⟩ := hv.view Tryz.prog 22 3 Tryz.underlying22 intElem
  have HM := Lib.hid hm
  clear hm
  go_enter Tryz.func220, Tryz.ntmps220
  go_wp2
  go_loopw [3] (fun i wr => ∃ k m : Nat, k ≤ l.length ∧ i = .int .i64 k ∧ wr = w.drewN m ∧ allTo (fun i => allTo (fun k => !clashS (l.getD i 0) (l.getD k 0)) i) k = true) (fun i _ => l.length - (intOf i).toNat)
  case atStart => exact ⟨0, 0, Nat.zero_le _, rfl, rfl, rfl⟩
  case round =>
    obtain ⟨k, m, hk, rfl, rfl, hall⟩ := hrel
    have H := Lib.hid hall
    clear hall
    by_cases hlt : k < l.length
    · have hlk := HM.out _ (List.getElem_mem hlt)
      go_wp2
      go_loopw [4] (fun j wr => ∃ q n : Nat, q ≤ k ∧ j = .int .i64 q ∧ wr = w.drewN n ∧ allTo (fun q => !clashS (l.getD k 0) (l.getD q 0)) q = true) (fun j _ => k - (intOf j).toNat)
      case atStart => exact ⟨0, m, by omega, rfl, rfl, rfl⟩
      case round =>
        obtain ⟨q, n, hq, rfl, rfl, hin⟩ := hrel
        have HI := Lib.hid hin
        clear hin
        by_cases hle : q < k
        · have hql : q < l.length := by omega
          have hlq := HM.out _ (List.getElem_mem hql)
          have hA := iand_is hlk.1 (show l[k] < 4611686018427387904 by omega) hlq.1 (show l[q] < 4611686018427387904 by omega)
          obtain ⟨x, hx⟩ : ∃ x, x = iand l[k] l[q] := ⟨_, rfl⟩
          rw [← hx] at hA
          have hr : clashS (l.getD k 0) (l.getD q 0) = ((x != 0) && (x != l[k]) && (x != l[q])) := by rw [getD_at l k hlt, getD_at l q hql]; unfold clashS; rw [hx]
          have HR := Lib.hid hr
          clear hr hx
          cases h1 : (x != 0) with
          | false =>
            have hp : (!clashS (l.getD k 0) (l.getD q 0)) = true := by rw [HR.out, h1]; rfl
            have HP := Lib.hid hp
            clear hp
            go_wp2
            go_quiet (fail)
            go_wp2
            go_roundw
            case rel => exact ⟨q + 1, n + nq, by omega, by go_num, by simp, allTo_succ HI.out HP.out⟩
            case measure => simp [intOf]; omega
          | true =>
            cases h2 : (x != l[k]) with
            | false =>
              have hp : (!clashS (l.getD k 0) (l.getD q 0)) = true := by rw [HR.out, h1, h2]; rfl
              have HP := Lib.hid hp
              clear hp
              go_wp2
              go_quiet (fail)
              go_wp2
              go_roundw
              case rel => exact ⟨q + 1, n + nq, by omega, by go_num, by simp, allTo_succ HI.out HP.out⟩
              case measure => simp [intOf]; omega
            | true =>
              cases h3 : (x != l[q]) with
              | false =>
                have hp : (!clashS (l.getD k 0) (l.getD q 0)) = true := by rw [HR.out, h1, h2, h3]; rfl
                have HP := Lib.hid hp
                clear hp
                go_wp2
                go_quiet (fail)
                go_wp2
                go_roundw
                case rel => exact ⟨q + 1, n + nq, by omega, by go_num, by simp, allTo_succ HI.out HP.out⟩
                case measure => simp [intOf]; omega
              | true =>
                have hp : (!clashS (l.getD k 0) (l.getD q 0)) = false := by rw [HR.out, h1, h2, h3]; rfl
                have HP := Lib.hid hp
                clear hp
                go_wp2
                go_quiet (fail)
                go_wp2
                go_ret
                exact ⟨ret_bool (allTo_false (p := fun i => allTo (fun k => !clashS (l.getD i 0) (l.getD k 0)) i) hlt (allTo_false (p := fun q => !clashS (l.getD k 0) (l.getD q 0)) hle HP.out)).symm, (Below.refl _ _).drewN' _⟩
        · go_wp2
          go_roundw
          case rel => exact ⟨k + 1, n, by omega, by go_num, rfl, allTo_succ H.out (by rw [show k = q by omega]; exact (show k = q by omega) ▸ HI.out)⟩
          case measure => simp [intOf]; omega
    · go_wp2
      go_ret
      exact ⟨ret_bool (by unfold lamS; rw [show l.length = k by omega, H.out]), (Below.refl _ _).drewN' _⟩
end Go.Proofs.YtipejodijbjpcaaGreatDoor
end
