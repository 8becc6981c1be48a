/- The greatest excess: what is computed. All orders of some elements. -/
import Derived.Test.YtipejodijbjpcaaGreatDoorQ14
section
namespace Go.Proofs.YtipejodijbjpcaaGreatDoor
open Go.RowKit Go.G5

def gstep (l : List Int) (a : Int) (t : Tri) : Int × Bool := (max a (exL l t.1 t.2.1 t.2.2), true)
def gapT (n : Nat) (l : List Int) : Int := (runT (gstep l) (tri3 n (2 ^ n)) 0).1
def gapN (n : Int) (l : List Int) : Int := if isFunB n l then gapT n.toNat l else 0
/-- the greatest of 0 and the numbers of a list -/
def most0 (X : List Int) (a : Int) : Int := X.foldl max a
theorem most0_ge : ∀ (X : List Int) (a : Int), a ≤ most0 X a ∧ ∀ x ∈ X, x ≤ most0 X a
  | [], a => ⟨Int.le_refl _, by simp⟩
  | y :: X, a => by
    have ⟨h1, h2⟩ := most0_ge X (max a y)
    refine ⟨by unfold most0 at h1 ⊢; rw [List.foldl_cons]; omega, fun x hx => ?_⟩
    rcases List.mem_cons.1 hx with rfl | hx
    · unfold most0 at h1 ⊢; rw [List.foldl_cons]; omega
    · exact h2 x hx
theorem most0_is : ∀ (X : List Int) (a : Int), most0 X a = a ∨ most0 X a ∈ X
  | [], a => .inl rfl
  | y :: X, a => by
    have h := most0_is X (max a y)
    have e : most0 (y :: X) a = most0 X (max a y) := rfl
    rw [e]
    rcases h with h | h
    · rw [h]
      rcases Int.le_total a y with h1 | h1
      · right; rw [Int.max_eq_right h1]; simp
      · left; exact Int.max_eq_left h1
    · exact .inr (List.mem_cons_of_mem _ h)
theorem most0_eq (X Y : List Int) (a : Int) (h1 : ∀ x ∈ X, x ∈ Y) (h2 : ∀ y ∈ Y, y ∈ X) : most0 X a = most0 Y a := by
  have ax := most0_ge X a
  have ay := most0_ge Y a
  have ix := most0_is X a
  have iy := most0_is Y a
  have e1 : most0 X a ≤ most0 Y a := by
    rcases ix with h | h
    · rw [h]; exact ay.1
    · exact ay.2 _ (h1 _ h)
  have e2 : most0 Y a ≤ most0 X a := by
    rcases iy with h | h
    · rw [h]; exact ax.1
    · exact ax.2 _ (h2 _ h)
  omega
theorem most0_snoc (X : List Int) (a y : Int) : most0 (X ++ [y]) a = max (most0 X a) y := by simp [most0]
def exTg (l : List Int) (t : Tri) : Int := exL l t.1 t.2.1 t.2.2
theorem gap_run (l : List Int) : ∀ (T : List Tri) (a : Int), runT (gstep l) T a = (most0 (T.map (exTg l)) a, true)
  | [], _ => rfl
  | t :: T, a => by
    rw [runT]
    show (if true = true then _ else _) = _
    rw [if_pos rfl, gap_run l T]
    rfl
/-! in the other order -/
def trk (s i : Nat) : Nat → List Tri
  | 0 => []
  | k + 1 => trk s i k ++ (if (!nbit s i && !nbit s k) then [(s, i, k)] else [])
def trk2 (s : Nat) : Nat → List Tri
  | 0 => []
  | i + 1 => trk2 s i ++ trk s i i
def trk3 (n : Nat) : Nat → List Tri
  | 0 => []
  | s + 1 => trk3 n s ++ trk2 s n
theorem trk_iff (s i k : Nat) (t : Tri) : t ∈ trk s i k ↔ t.1 = s ∧ t.2.1 = i ∧ t.2.2 < k ∧ nbit s i = false ∧ nbit s t.2.2 = false := by
  induction k with
  | zero => simp [trk]
  | succ k ih =>
    rw [trk, List.mem_append, ih]
    obtain ⟨a, b, c⟩ := t
    constructor
    · rintro (h | h)
      · exact ⟨h.1, h.2.1, by have := h.2.2.1; omega, h.2.2.2⟩
      · split at h
        · rename_i hc
          rw [List.mem_singleton] at h
          simp only [Prod.mk.injEq] at h
          obtain ⟨rfl, rfl, rfl⟩ := h
          simp only [Bool.and_eq_true, Bool.not_eq_true'] at hc
          exact ⟨rfl, rfl, by simp, hc.1, hc.2⟩
        · cases h
    · rintro ⟨h1, h2, h3, h4, h5⟩
      simp only at h1 h2 h3 h5
      by_cases hk : c = k
      · right
        subst hk h1 h2
        rw [if_pos (by rw [h4, h5]; rfl)]; simp
      · left; exact ⟨h1, h2, by simp only; omega, h4, h5⟩
theorem trk2_iff (s i : Nat) (t : Tri) : t ∈ trk2 s i ↔ t.1 = s ∧ t.2.1 < i ∧ t.2.2 < t.2.1 ∧ nbit s t.2.1 = false ∧ nbit s t.2.2 = false := by
  induction i with
  | zero => simp [trk2]
  | succ i ih =>
    rw [trk2, List.mem_append, ih, trk_iff]
    constructor
    · rintro (h | h)
      · exact ⟨h.1, by omega, h.2.2⟩
      · have e := h.2.1
        exact ⟨h.1, by omega, by omega, by rw [e]; exact h.2.2.2.1, h.2.2.2.2⟩
    · rintro ⟨h1, h2, h3, h4, h5⟩
      by_cases hk : t.2.1 = i
      · right; exact ⟨h1, hk, by omega, by rw [← hk]; exact h4, h5⟩
      · left; exact ⟨h1, by omega, h3, h4, h5⟩
theorem trk3_iff (n s : Nat) (t : Tri) : t ∈ trk3 n s ↔ t.1 < s ∧ t.2.1 < n ∧ t.2.2 < t.2.1 ∧ nbit t.1 t.2.1 = false ∧ nbit t.1 t.2.2 = false := by
  induction s with
  | zero => simp [trk3]
  | succ s ih =>
    rw [trk3, List.mem_append, ih, trk2_iff]
    constructor
    · rintro (h | h)
      · exact ⟨by omega, h.2⟩
      · have e := h.1
        rw [e]
        exact ⟨by omega, h.2⟩
    · rintro ⟨h1, h2⟩
      by_cases hk : t.1 = s
      · right; rw [hk] at h2; exact ⟨hk, h2⟩
      · left; exact ⟨by omega, h2⟩
theorem tri_iff (s i k : Nat) (t : Tri) : t ∈ tri s i k ↔ t.1 = s ∧ t.2.1 = i ∧ i < t.2.2 ∧ t.2.2 < k ∧ nbit s i = false ∧ nbit s t.2.2 = false := by
  induction k with
  | zero => simp [tri]
  | succ k ih =>
    rw [tri, List.mem_append, ih]
    obtain ⟨a, b, c⟩ := t
    constructor
    · rintro (h | h)
      · exact ⟨h.1, h.2.1, h.2.2.1, by have := h.2.2.2.1; omega, h.2.2.2.2⟩
      · split at h
        · rename_i hc
          rw [List.mem_singleton] at h
          simp only [Prod.mk.injEq] at h
          obtain ⟨rfl, rfl, rfl⟩ := h
          simp only [Bool.and_eq_true, Bool.not_eq_true', decide_eq_true_eq] at hc
          exact ⟨rfl, rfl, hc.1, by simp, hc.2.1, hc.2.2⟩
        · cases h
    · rintro ⟨h1, h2, h3, h4, h5, h6⟩
      simp only at h1 h2 h3 h4 h6
      by_cases hk : c = k
      · right
        subst hk h1 h2
        rw [if_pos (by rw [h5, h6, decide_eq_true h3]; rfl)]; simp
      · left; exact ⟨h1, h2, h3, by simp only; omega, h5, h6⟩
theorem tri2_iff (n s i : Nat) (t : Tri) : t ∈ tri2 n s i ↔ t.1 = s ∧ t.2.1 < i ∧ t.2.1 < t.2.2 ∧ t.2.2 < n ∧ nbit s t.2.1 = false ∧ nbit s t.2.2 = false := by
  induction i with
  | zero => simp [tri2]
  | succ i ih =>
    rw [tri2, List.mem_append, ih, tri_iff]
    constructor
    · rintro (h | h)
      · exact ⟨h.1, by omega, h.2.2⟩
      · have e := h.2.1
        exact ⟨h.1, by omega, by omega, h.2.2.2.1, by rw [e]; exact h.2.2.2.2.1, h.2.2.2.2.2⟩
    · rintro ⟨h1, h2, h3, h4, h5, h6⟩
      by_cases hk : t.2.1 = i
      · right; exact ⟨h1, hk, by omega, h4, by rw [← hk]; exact h5, h6⟩
      · left; exact ⟨h1, by omega, h3, h4, h5, h6⟩
theorem tri3_iff (n s : Nat) (t : Tri) : t ∈ tri3 n s ↔ t.1 < s ∧ t.2.1 < t.2.2 ∧ t.2.2 < n ∧ nbit t.1 t.2.1 = false ∧ nbit t.1 t.2.2 = false := by
  induction s with
  | zero => simp [tri3]
  | succ s ih =>
    rw [tri3, List.mem_append, ih, tri2_iff]
    constructor
    · rintro (h | h)
      · exact ⟨by omega, h.2⟩
      · have e := h.1
        rw [e]
        exact ⟨by omega, h.2.2⟩
    · rintro ⟨h1, h2, h3, h4, h5⟩
      by_cases hk : t.1 = s
      · right; rw [hk] at h4 h5; exact ⟨hk, by omega, h2, h3, h4, h5⟩
      · left; exact ⟨by omega, h2, h3, h4, h5⟩
theorem exL_swap (l : List Int) (s i k : Nat) : exL l s i k = exL l s k i := by
  unfold exL
  rw [Nat.or_comm (setBit s i) (setBit s k)]
  omega
theorem gap_other (n : Nat) (l : List Int) (N : Nat) : most0 ((trk3 n N).map (exTg l)) 0 = most0 ((tri3 n N).map (exTg l)) 0 := by
  refine most0_eq _ _ _ (fun x hx => ?_) (fun x hx => ?_)
  · obtain ⟨⟨s, i, k⟩, h1, rfl⟩ := List.mem_map.1 hx
    have h2 := (trk3_iff _ _ _).1 h1
    simp only at h2
    exact List.mem_map.2 ⟨(s, k, i), (tri3_iff _ _ _).2 (by simp only; exact ⟨h2.1, h2.2.2.1, h2.2.1, h2.2.2.2.2, h2.2.2.2.1⟩), exL_swap l s k i⟩
  · obtain ⟨⟨s, i, k⟩, h1, rfl⟩ := List.mem_map.1 hx
    have h2 := (tri3_iff _ _ _).1 h1
    simp only at h2
    exact List.mem_map.2 ⟨(s, k, i), (trk3_iff _ _ _).2 (by simp only; exact ⟨h2.1, h2.2.2.1, h2.2.1, h2.2.2.2.2, h2.2.2.2.1⟩), exL_swap l s k i⟩
theorem gapT_most (n : Nat) (l : List Int) : gapT n l = most0 ((trk3 n (2 ^ n)).map (exTg l)) 0 := by
  unfold gapT
  rw [gap_run, gap_other]
theorem most0_bd (X : List Int) (h : ∀ x ∈ X, x ≤ 4000) : 0 ≤ most0 X 0 ∧ most0 X 0 ≤ 4000 := by
  have h1 := (most0_ge X 0).1
  rcases most0_is X 0 with h2 | h2
  · omega
  · exact ⟨h1, h _ h2⟩
theorem gapN_bd (n : Int) (l : List Int) : 0 ≤ gapN n l ∧ gapN n l ≤ 4000 := by
  unfold gapN
  split
  · rename_i hf
    obtain ⟨h0, h5, hlen, hlb⟩ := funOk hf
    have hl2 : l.length = 2 ^ n.toNat := by exact_mod_cast hlen
    unfold gapT
    rw [gap_run]
    refine most0_bd _ (fun x hx => ?_)
    obtain ⟨t, h1, rfl⟩ := List.mem_map.1 hx
    have h2 := tri3_mem _ _ t h1
    exact (exL_bd n.toNat l hl2 hlb t.1 t.2.1 t.2.2 h2.1 (by omega) (by omega)).2
  · omega
end Go.Proofs.YtipejodijbjpcaaGreatDoor
end
section
namespace Go.Proofs.YtipejodijbjpcaaGreatDoor
open Go.RowKit Go.G5

def extTo (l : List Int) : Nat → List (List Int)
  | 0 => []
  | e + 1 => if has l (e : Int) then extTo l e else extTo l e ++ [l ++ [(e : Int)]]
def nextTo (n : Nat) (ls : List (List Int)) : Nat → List (List Int)
  | 0 => []
  | k + 1 => nextTo n ls k ++ extTo (ls.getD k []) n
def ordersN (n : Nat) : Nat → List (List Int)
  | 0 => [[]]
  | r + 1 => nextTo n (ordersN n r) (ordersN n r).length
theorem extTo_len (l : List Int) (e : Nat) : (extTo l e).length ≤ e := by
  induction e with
  | zero => exact Nat.le_refl _
  | succ e ih =>
    rw [extTo]
    split
    · omega
    · rw [List.length_append]; simp only [List.length_cons, List.length_nil]; omega
theorem nextTo_len (n : Nat) (ls : List (List Int)) (k : Nat) : (nextTo n ls k).length ≤ k * n := by
  induction k with
  | zero => simp [nextTo]
  | succ k ih =>
    have := extTo_len (ls.getD k []) n
    rw [nextTo, List.length_append, Nat.succ_mul]; omega
theorem ordersN_len (n : Nat) (hn : n ≤ 5) (r : Nat) : (ordersN n r).length ≤ 5 ^ r := by
  induction r with
  | zero => simp [ordersN]
  | succ r ih =>
    have h1 := nextTo_len n (ordersN n r) (ordersN n r).length
    have h2 : (ordersN n r).length * n ≤ 5 ^ r * 5 := Nat.mul_le_mul ih hn
    rw [ordersN, Nat.pow_succ]; omega
theorem extTo_mem (l : List Int) (n e : Nat) (he : e ≤ n) : ∀ x ∈ extTo l e, ∃ j : Nat, j < n ∧ x = l ++ [(j : Int)] := by
  induction e with
  | zero => simp [extTo]
  | succ e ih =>
    intro x hx
    rw [extTo] at hx
    split at hx
    · exact ih (by omega) x hx
    · rcases List.mem_append.1 hx with hx | hx
      · exact ih (by omega) x hx
      · simp only [List.mem_singleton] at hx
        exact ⟨e, by omega, hx⟩
theorem nextTo_mem (n : Nat) (ls : List (List Int)) (k : Nat) (hk : k ≤ ls.length) : ∀ x ∈ nextTo n ls k, ∃ l ∈ ls, ∃ j : Nat, j < n ∧ x = l ++ [(j : Int)] := by
  induction k with
  | zero => simp [nextTo]
  | succ k ih =>
    intro x hx
    rw [nextTo] at hx
    rcases List.mem_append.1 hx with hx | hx
    · exact ih (by omega) x hx
    · obtain ⟨j, hj, e⟩ := extTo_mem _ n n (Nat.le_refl _) x hx
      rw [List.getD_eq_getElem?_getD, List.getElem?_eq_getElem (show k < ls.length by omega), Option.getD_some] at e
      exact ⟨_, List.getElem_mem (show k < ls.length by omega), j, hj, e⟩
theorem ordersN_mem (n r : Nat) : ∀ l ∈ ordersN n r, l.length = r ∧ ∀ x ∈ l, 0 ≤ x ∧ x < n := by
  induction r with
  | zero => intro l hl; simp only [ordersN, List.mem_singleton] at hl; subst hl; simp
  | succ r ih =>
    intro l hl
    obtain ⟨l', hl', j, hj, rfl⟩ := nextTo_mem n _ _ (Nat.le_refl _) l hl
    obtain ⟨h1, h2⟩ := ih l' hl'
    refine ⟨by simp [h1], fun x hx => ?_⟩
    rcases List.mem_append.1 hx with hx | hx
    · exact h2 x hx
    · simp only [List.mem_singleton] at hx; omega

set_option maxHeartbeats 2000000 in
set_option maxRecDepth 100000 in
theorem ordersOf_any (n : Nat) (hn : n ≤ 5) (w : World) :
    Calls Tryz.prog 120 #[.int .i64 (n : Int)] w fun e w' => ∃ ad i c, e = .returned (.slice ad i c) ∧ OwnLL 3 22 w.heap.size w' (.slice ad i c) (ordersN n n) ∧ Below w.heap.size w w' := by
  have o0 := OwnLL.single (EI := 3) (EO := 22) w (Nat.le_refl w.heap.size)
  go_enter Tryz.func120, Tryz.ntmps120
  go_wp2_with fail
  go_loopw [3, 10] (fun v i wr => ∃ (r : Nat) (ad : Option Addr) (cp : Nat), r ≤ n ∧ i = .int .i64 r ∧ v = .slice ad (ordersN n r).length cp ∧ OwnLL 3 22 w.heap.size wr (.slice ad (ordersN n r).length cp) (ordersN n r) ∧ Below w.heap.size w wr)
    (fun _ i _ => n - (intOf i).toNat)
  case atStart => exact ⟨0, _, _, Nat.zero_le _, rfl, rfl, o0, bl1 _ _⟩
  case round =>
    obtain ⟨r, ad, cp, hr, rfl, rfl, ol, B⟩ := hrel
    obtain ⟨wo, rfl⟩ : ∃ wo : World, wo = wr := ⟨_, rfl⟩
    clear o0
    by_cases hrn : r < n
    · have hmem := ordersN_mem n r
      have hlen := ordersN_len n hn r
      have h5 : (5 : Nat) ^ r ≤ 5 ^ 4 := Nat.pow_le_pow_right (by decide) (by omega)
      have hnx : ordersN n (r + 1) = nextTo n (ordersN n r) (ordersN n r).length := rfl
      obtain ⟨ls, hls⟩ : ∃ ls, ls = ordersN n r := ⟨_, rfl⟩
      rw [← hls] at ol hmem hlen hnx ⊢
      have hl625 : ls.length ≤ 625 := by omega
      have HNX := Lib.hid hnx
      have HMEM := Lib.hid hmem
      have HOL := Lib.hid ol
      clear hls hmem hlen h5 hnx ol
      go_wp2_with fail
      go_loopw [4, 14] (fun v i wm => ∃ (k : Nat) (ad' : Option Addr) (nn' cp' : Nat), k ≤ ls.length ∧ i = .int .i64 k ∧ v = .slice ad' nn' cp' ∧ OwnLL 3 22 wo.heap.size wm (.slice ad' nn' cp') (nextTo n ls k) ∧
          OwnLL 3 22 w.heap.size wm (.slice ad ls.length cp) ls ∧ Below w.heap.size w wm ∧ wo.heap.size ≤ wm.heap.size)
        (fun _ i _ => ls.length - (intOf i).toNat)
      case atStart => exact ⟨0, none, 0, 0, Nat.zero_le _, rfl, rfl, OwnLL.nil _ _ _ _, HOL.out, B, Nat.le_refl _⟩
      case round =>
        obtain ⟨k, ad', nn', cp', hk, rfl, rfl, oN, oL, Bm, zm⟩ := hrel
        obtain ⟨wm, rfl⟩ : ∃ wm : World, wm = wr := ⟨_, rfl⟩
        have rL := HOL.out.lt
        by_cases hkl : k < ls.length
        · obtain ⟨g, u, hix, hcell, hu⟩ := oL.view Tryz.prog 39 Tryz.underlying39 sliceElem k hkl
          have hml := HMEM.out _ (List.getElem_mem hkl)
          have hgd : ls.getD k [] = ls[k] := by rw [List.getD_eq_getElem?_getD, List.getElem?_eq_getElem hkl]; rfl
          have hnk : nextTo n ls (k + 1) = nextTo n ls k ++ extTo ls[k] n := by rw [nextTo, hgd]
          have hnl := nextTo_len n ls k
          have hnl2 : k * n ≤ 625 * 5 := Nat.mul_le_mul (by omega) hn
          obtain ⟨l, hl⟩ : ∃ l, l = ls[k] := ⟨_, rfl⟩
          rw [← hl] at hu hml hnk
          obtain ⟨N, hN⟩ : ∃ N, N = nextTo n ls k := ⟨_, rfl⟩
          rw [← hN] at hnk hnl oN
          have hll : l.length ≤ 5 := by have := hml.1; omega
          obtain ⟨au, nu, cu, rfl⟩ := hu.shape3
          have HNK := Lib.hid hnk
          have HON := Lib.hid oN
          have HOLm := Lib.hid oL
          have HU := Lib.hid hu
          clear hl hN hml hgd hnk oN oL hu
          go_wp2_with fail
          go_loopw [4, 19] (fun v i wi => ∃ (e : Nat) (ad'' : Option Addr) (nn'' cp'' : Nat), e ≤ n ∧ i = .int .i64 e ∧ v = .slice ad'' nn'' cp'' ∧ OwnLL 3 22 wo.heap.size wi (.slice ad'' nn'' cp'') (N ++ extTo l e) ∧
              OwnLL 3 22 w.heap.size wi (.slice ad ls.length cp) ls ∧ OwnI 3 w.heap.size wi (.slice au nu cu) l ∧ Below w.heap.size w wi ∧ wo.heap.size ≤ wi.heap.size)
            (fun _ i _ => n - (intOf i).toNat)
          case atStart => exact ⟨0, _, _, _, Nat.zero_le _, rfl, rfl, by simpa [extTo] using HON.out, HOLm.out, HU.out, Bm, zm⟩
          case round =>
            obtain ⟨e, ad'', nn'', cp'', he, rfl, rfl, oN, oL, oU, Bi, zi⟩ := hrel
            obtain ⟨wi, rfl⟩ : ∃ wi : World, wi = wr := ⟨_, rfl⟩
            clear hix hcell
            by_cases hen : e < n
            · cases hh : has l (e : Int) with
              | true =>
                have hx : extTo l (e + 1) = extTo l e := by rw [extTo, hh]; rfl
                have HX := Lib.hid hx
                have HH := Lib.hid hh
                clear hx hh
                go_wp2_with (go_at_call 133; refine (slContains_any l _ _ _ oU.ints).mono ?_; rintro e' w' ⟨rfl, rfl⟩; rw [HH.out])
                go_roundw
                case rel => exact ⟨e + 1, ad'', nn'', cp'', by omega, by go_num, rfl, by rw [HX.out]; exact oN, oL, oU, Bi, zi⟩
                case measure => simp [intOf]; omega
              | false =>
                have hx : extTo l (e + 1) = extTo l e ++ [l ++ [(e : Int)]] := by rw [extTo, hh]; rfl
                have hel := extTo_len l e
                have HX := Lib.hid hx
                have HH := Lib.hid hh
                have rN := oN.lt
                have HON2 := Lib.hid oN
                have HOL2 := Lib.hid oL
                have HOU := Lib.hid oU
                have hlenN : (N ++ extTo l e).length ≤ 4000 := by rw [List.length_append]; omega
                clear hx hh oN oL oU hel
                go_wp2_with (first
                  | (go_at_call 133; refine (slContains_any l _ _ _ HOU.out.ints).mono ?_; rintro e' w' ⟨rfl, rfl⟩; rw [HH.out])
                  | (go_at_call 242; refine (clone_any _ l _ HOU.out.ints (by omega)).mono ?_; rintro e' w5 ⟨p5, i5, q5, rfl, o5, hb5⟩; have z5 := hb5.size)
                  | (at_builtin; refine wpList_appendI rfl _ _ _ rfl 3 Tryz.underlying22 intElem wi.heap.size (.slice p5 i5 q5) l (e : Int) w5.heap.size rfl rfl (by simp) (o5.alloc _) ⟨by omega, by omega⟩ (by omega) (by simp; omega) ?_; intro v' w6 hown6 hgr6; obtain ⟨p6, i6, q6, rfl⟩ := hown6.shape3; have b6 : Below wi.heap.size wi w6 := below_grow (Below.after (Below.refl _ _) (hb5.after (bl1 w5 _) hb5.size) (Nat.le_refl _)) hgr6 (by simp; omega) (fun q hq => (o5.lt q hq).1); have z6 := b6.size; obtain ⟨vs6, row6⟩ := (HON2.out.keep b6).row)
                  | (at_builtin; refine wpList_appendL rfl _ _ _ rfl 3 22 noMeet Tryz.underlying39 sliceElem wo.heap.size (.slice ad'' nn'' cp'') (N ++ extTo l e) (.slice p6 i6 q6) (l ++ [(e : Int)]) w6.heap.size rfl rfl (by simp) ((HON2.out.keep b6).keep (bl1 w6 _)) ((hown6.mono (by omega)).alloc _) (by omega) (by simp; omega) ?_; intro v' w7 hown7 hgr7; obtain ⟨p7, i7, q7, rfl⟩ := hown7.shape3))
                have b7 : Below wi.heap.size wi (w6.alloc (.cells #[.slice p6 i6 q6] 22)) := b6.alloc b6.size _
                obtain ⟨vs7, row7⟩ := (HON2.out.keep b7).row
                have oL7 := (HOL2.out.keep b7).grow row7 noMeet hgr7 (fun q hq hq2 => by have := (rN q hq).1; have := (rL q hq2).2; omega)
                have oU7 := (HOU.out.keep b7).growL row7 noMeet hgr7
                have zBi := Bi.size
                have B7 := (Bi.after b7 Bi.size).grown hgr7 (by simp; omega) (fun q hq => by have := (rN q hq).1; have := B.size; omega)
                have z7 := hgr7.size
                go_roundw
                case rel => exact ⟨e + 1, p7, i7, q7, by omega, by go_num, rfl, by rw [HX.out, ← List.append_assoc]; exact hown7, oL7, oU7, B7, by simp at z7; omega⟩
                case measure => simp [intOf]; omega
            · have hee : e = n := by omega
              subst hee
              go_wp2
              go_roundw
              case rel => exact ⟨k + 1, ad'', nn'', cp'', by omega, by go_num, rfl, by rw [HNK.out]; exact oN, oL, Bi, zi⟩
              case measure => simp [intOf]; omega
        · have hkk : k = ls.length := by omega
          subst hkk
          have hsh := oN.len
          obtain ⟨a3, c3, e3, _⟩ := hsh
          simp only [Value.slice.injEq] at e3
          obtain ⟨rfl, rfl, rfl⟩ := e3
          have HON := Lib.hid oN
          clear oN oL
          go_wp2
          go_roundw
          case rel => exact ⟨r + 1, _, _, by omega, by go_num, by rw [HNX.out], by rw [HNX.out]; exact HON.out.mono B.size, Bm⟩
          case measure => simp [intOf]; omega
    · have hrr : r = n := by omega
      subst hrr
      go_wp2
      go_ret
      exact ⟨_, _, _, rfl, ol, B⟩
end Go.Proofs.YtipejodijbjpcaaGreatDoor
end
