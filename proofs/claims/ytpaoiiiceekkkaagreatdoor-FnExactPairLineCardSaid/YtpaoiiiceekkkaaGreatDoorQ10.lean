/- All orders of some elements. Powers of elements, in plain words. -/
import Derived.Test.YtpaoiiiceekkkaaGreatDoorQ09
section
namespace Go.Proofs.YtpaoiiiceekkkaaGreatDoor
open Go.RowKit Go.G5

def extTo (l : List Int) : Nat → List (List Int)
  | 0 => []
  | e + 1 => if has l (e : Int) then extTo l e else extTo l e ++ [l ++ [(e : Int)]]
def nextTo (n : Nat) (ls : List (List Int)) : Nat → List (List Int)
  | 0 => []
  | k + 1 => nextTo n ls k ++ extTo (ls.getD k []) n
def ordersN (n : Nat) : Nat → List (List Int)
  | 0 => [[]]
  | r + 1 => nextTo n (ordersN n r) (ordersN n r).length
theorem extTo_len (l : List Int) (e : Nat) : (extTo l e).length ≤ e := by
  induction e with
  | zero => exact Nat.le_refl _
  | succ e ih =>
    rw [extTo]
    split
    · omega
    · rw [List.length_append]; simp only [List.length_cons, List.length_nil]; omega
theorem nextTo_len (n : Nat) (ls : List (List Int)) (k : Nat) : (nextTo n ls k).length ≤ k * n := by
  induction k with
  | zero => simp [nextTo]
  | succ k ih =>
    have := extTo_len (ls.getD k []) n
    rw [nextTo, List.length_append, Nat.succ_mul]; omega
theorem ordersN_len (n : Nat) (hn : n ≤ 5) (r : Nat) : (ordersN n r).length ≤ 5 ^ r := by
  induction r with
  | zero => simp [ordersN]
  | succ r ih =>
    have h1 := nextTo_len n (ordersN n r) (ordersN n r).length
    have h2 : (ordersN n r).length * n ≤ 5 ^ r * 5 := Nat.mul_le_mul ih hn
    rw [ordersN, Nat.pow_succ]; omega
theorem extTo_mem (l : List Int) (n e : Nat) (he : e ≤ n) : ∀ x ∈ extTo l e, ∃ j : Nat, j < n ∧ x = l ++ [(j : Int)] := by
  induction e with
  | zero => simp [extTo]
  | succ e ih =>
    intro x hx
    rw [extTo] at hx
    split at hx
    · exact ih (by omega) x hx
    · rcases List.mem_append.1 hx with hx | hx
      · exact ih (by omega) x hx
      · simp only [List.mem_singleton] at hx
        exact ⟨e, by omega, hx⟩
theorem nextTo_mem (n : Nat) (ls : List (List Int)) (k : Nat) (hk : k ≤ ls.length) : ∀ x ∈ nextTo n ls k, ∃ l ∈ ls, ∃ j : Nat, j < n ∧ x = l ++ [(j : Int)] := by
  induction k with
  | zero => simp [nextTo]
  | succ k ih =>
    intro x hx
    rw [nextTo] at hx
    rcases List.mem_append.1 hx with hx | hx
    · exact ih (by omega) x hx
    · obtain ⟨j, hj, e⟩ := extTo_mem _ n n (Nat.le_refl _) x hx
      rw [List.getD_eq_getElem?_getD, List.getElem?_eq_getElem (show k < ls.length by omega), Option.getD_some] at e
      exact ⟨_, List.getElem_mem (show k < ls.length by omega), j, hj, e⟩
theorem ordersN_mem (n r : Nat) : ∀ l ∈ ordersN n r, l.length = r ∧ ∀ x ∈ l, 0 ≤ x ∧ x < n := by
  induction r with
  | zero => intro l hl; simp only [ordersN, List.mem_singleton] at hl; subst hl; simp
  | succ r ih =>
    intro l hl
    obtain ⟨l', hl', j, hj, rfl⟩ := nextTo_mem n _ _ (Nat.le_refl _) l hl
    obtain ⟨h1, h2⟩ := ih l' hl'
    refine ⟨by simp [h1], fun x hx => ?_⟩
    rcases List.mem_append.1 hx with hx | hx
    · exact h2 x hx
    · simp only [List.mem_singleton] at hx; omega

set_option maxHeartbeats 2000000 in
set_option maxRecDepth 100000 in
theorem ordersOf_any (n : Nat) (hn : n ≤ 5) (w : World) :
    Calls Tryz.prog 112 #[.int .i64 (n : Int)] w fun e w' => ∃ ad i c, e = .returned (.slice ad i c) ∧ OwnLL 3 22 w.heap.size w' (.slice ad i c) (ordersN n n) ∧ Below w.heap.size w w' := by
  have o0 := OwnLL.single (EI := 3) (EO := 22) w (Nat.le_refl w.heap.size)
  go_enter Tryz.func112, Tryz.ntmps112
  go_wp2_with fail
  go_loopw [3, 10] (fun v i wr => ∃ (r : Nat) (ad : Option Addr) (cp : Nat), r ≤ n ∧ i = .int .i64 r ∧ v = .slice ad (ordersN n r).length cp ∧ OwnLL 3 22 w.heap.size wr (.slice ad (ordersN n r).length cp) (ordersN n r) ∧ Below w.heap.size w wr)
    (fun _ i _ => n - (intOf i).toNat)
  case atStart => exact ⟨0, _, _, Nat.zero_le _, rfl, rfl, o0, bl1 _ _⟩
  case round =>
    obtain ⟨r, ad, cp, hr, rfl, rfl, ol, B⟩ := hrel
    obtain ⟨wo, rfl⟩ : ∃ wo : World, wo = wr := ⟨_, rfl⟩
    clear o0
    by_cases hrn : r < n
    · have hmem := ordersN_mem n r
      have hlen := ordersN_len n hn r
      have h5 : (5 : Nat) ^ r ≤ 5 ^ 4 := Nat.pow_le_pow_right (by decide) (by omega)
      have hnx : ordersN n (r + 1) = nextTo n (ordersN n r) (ordersN n r).length := rfl
      obtain ⟨ls, hls⟩ : ∃ ls, ls = ordersN n r := ⟨_, rfl⟩
      rw [← hls] at ol hmem hlen hnx ⊢
      have hl625 : ls.length ≤ 625 := by omega
      have HNX := Lib.hid hnx
      have HMEM := Lib.hid hmem
      have HOL := Lib.hid ol
      clear hls hmem hlen h5 hnx ol
      go_wp2_with fail
      go_loopw [4, 14] (fun v i wm => ∃ (k : Nat) (ad' : Option Addr) (nn' cp' : Nat), k ≤ ls.length ∧ i = .int .i64 k ∧ v = .slice ad' nn' cp' ∧ OwnLL 3 22 wo.heap.size wm (.slice ad' nn' cp') (nextTo n ls k) ∧
          OwnLL 3 22 w.heap.size wm (.slice ad ls.length cp) ls ∧ Below w.heap.size w wm ∧ wo.heap.size ≤ wm.heap.size)
        (fun _ i _ => ls.length - (intOf i).toNat)
      case atStart => exact ⟨0, none, 0, 0, Nat.zero_le _, rfl, rfl, OwnLL.nil _ _ _ _, HOL.out, B, Nat.le_refl _⟩
      case round =>
        obtain ⟨k, ad', nn', cp', hk, rfl, rfl, oN, oL, Bm, zm⟩ := hrel
        obtain ⟨wm, rfl⟩ : ∃ wm : World, wm = wr := ⟨_, rfl⟩
        have rL := HOL.out.lt
        by_cases hkl : k < ls.length
        · obtain ⟨g, u, hix, hcell, hu⟩ := oL.view Tryz.prog 45 Tryz.underlying45 sliceElem k hkl
          have hml := HMEM.out _ (List.getElem_mem hkl)
          have hgd : ls.getD k [] = ls[k] := by rw [List.getD_eq_getElem?_getD, List.getElem?_eq_getElem hkl]; rfl
          have hnk : nextTo n ls (k + 1) = nextTo n ls k ++ extTo ls[k] n := by rw [nextTo, hgd]
          have hnl := nextTo_len n ls k
          have hnl2 : k * n ≤ 625 * 5 := Nat.mul_le_mul (by omega) hn
          obtain ⟨l, hl⟩ : ∃ l, l = ls[k] := ⟨_, rfl⟩
          rw [← hl] at hu hml hnk
          obtain ⟨N, hN⟩ : ∃ N, N = nextTo n ls k := ⟨_, rfl⟩
          rw [← hN] at hnk hnl oN
          have hll : l.length ≤ 5 := by have := hml.1; omega
          obtain ⟨au, nu, cu, rfl⟩ := hu.shape3
          have HNK := Lib.hid hnk
          have HON := Lib.hid oN
          have HOLm := Lib.hid oL
          have HU := Lib.hid hu
          clear hl hN hml hgd hnk oN oL hu
          go_wp2_with fail
          go_loopw [4, 19] (fun v i wi => ∃ (e : Nat) (ad'' : Option Addr) (nn'' cp'' : Nat), e ≤ n ∧ i = .int .i64 e ∧ v = .slice ad'' nn'' cp'' ∧ OwnLL 3 22 wo.heap.size wi (.slice ad'' nn'' cp'') (N ++ extTo l e) ∧
              OwnLL 3 22 w.heap.size wi (.slice ad ls.length cp) ls ∧ OwnI 3 w.heap.size wi (.slice au nu cu) l ∧ Below w.heap.size w wi ∧ wo.heap.size ≤ wi.heap.size)
            (fun _ i _ => n - (intOf i).toNat)
          case atStart => exact ⟨0, _, _, _, Nat.zero_le _, rfl, rfl, by simpa [extTo] using HON.out, HOLm.out, HU.out, Bm, zm⟩
          case round =>
            obtain ⟨e, ad'', nn'', cp'', he, rfl, rfl, oN, oL, oU, Bi, zi⟩ := hrel
            obtain ⟨wi, rfl⟩ : ∃ wi : World, wi = wr := ⟨_, rfl⟩
            clear hix hcell
            by_cases hen : e < n
            · cases hh : has l (e : Int) with
              | true =>
                have hx : extTo l (e + 1) = extTo l e := by rw [extTo, hh]; rfl
                have HX := Lib.hid hx
                have HH := Lib.hid hh
                clear hx hh
                go_wp2_with (go_at_call 124; refine (slContains_any l _ _ _ oU.ints).mono ?_; rintro e' w' ⟨rfl, rfl⟩; rw [HH.out])
                go_roundw
                case rel => exact ⟨e + 1, ad'', nn'', cp'', by omega, by go_num, rfl, by rw [HX.out]; exact oN, oL, oU, Bi, zi⟩
                case measure => simp [intOf]; omega
              | false =>
                have hx : extTo l (e + 1) = extTo l e ++ [l ++ [(e : Int)]] := by rw [extTo, hh]; rfl
                have hel := extTo_len l e
                have HX := Lib.hid hx
                have HH := Lib.hid hh
                have rN := oN.lt
                have HON2 := Lib.hid oN
                have HOL2 := Lib.hid oL
                have HOU := Lib.hid oU
                have hlenN : (N ++ extTo l e).length ≤ 4000 := by rw [List.length_append]; omega
                clear hx hh oN oL oU hel
                go_wp2_with (first
                  | (go_at_call 124; refine (slContains_any l _ _ _ HOU.out.ints).mono ?_; rintro e' w' ⟨rfl, rfl⟩; rw [HH.out])
                  | (go_at_call 202; refine (clone_any _ l _ HOU.out.ints (by omega)).mono ?_; rintro e' w5 ⟨p5, i5, q5, rfl, o5, hb5⟩; have z5 := hb5.size)
                  | (at_builtin; refine wpList_appendI rfl _ _ _ rfl 3 Tryz.underlying22 intElem wi.heap.size (.slice p5 i5 q5) l (e : Int) w5.heap.size rfl rfl (by simp) (o5.alloc _) ⟨by omega, by omega⟩ (by omega) (by simp; omega) ?_; intro v' w6 hown6 hgr6; obtain ⟨p6, i6, q6, rfl⟩ := hown6.shape3; have b6 : Below wi.heap.size wi w6 := below_grow (Below.after (Below.refl _ _) (hb5.after (bl1 w5 _) hb5.size) (Nat.le_refl _)) hgr6 (by simp; omega) (fun q hq => (o5.lt q hq).1); have z6 := b6.size; obtain ⟨vs6, row6⟩ := (HON2.out.keep b6).row)
                  | (at_builtin; refine wpList_appendL rfl _ _ _ rfl 3 22 noMeet Tryz.underlying45 sliceElem wo.heap.size (.slice ad'' nn'' cp'') (N ++ extTo l e) (.slice p6 i6 q6) (l ++ [(e : Int)]) w6.heap.size rfl rfl (by simp) ((HON2.out.keep b6).keep (bl1 w6 _)) ((hown6.mono (by omega)).alloc _) (by omega) (by simp; omega) ?_; intro v' w7 hown7 hgr7; obtain ⟨p7, i7, q7, rfl⟩ := hown7.shape3))
                have b7 : Below wi.heap.size wi (w6.alloc (.cells #[.slice p6 i6 q6] 22)) := b6.alloc b6.size _
                obtain ⟨vs7, row7⟩ := (HON2.out.keep b7).row
                have oL7 := (HOL2.out.keep b7).grow row7 noMeet hgr7 (fun q hq hq2 => by have := (rN q hq).1; have := (rL q hq2).2; omega)
                have oU7 := (HOU.out.keep b7).growL row7 noMeet hgr7
                have zBi := Bi.size
                have B7 := (Bi.after b7 Bi.size).grown hgr7 (by simp; omega) (fun q hq => by have := (rN q hq).1; have := B.size; omega)
                have z7 := hgr7.size
                go_roundw
                case rel => exact ⟨e + 1, p7, i7, q7, by omega, by go_num, rfl, by rw [HX.out, ← List.append_assoc]; exact hown7, oL7, oU7, B7, by simp at z7; omega⟩
                case measure => simp [intOf]; omega
            · have hee : e = n := by omega
              subst hee
              go_wp2
              go_roundw
              case rel => exact ⟨k + 1, ad'', nn'', cp'', by omega, by go_num, rfl, by rw [HNK.out]; exact oN, oL, Bi, zi⟩
              case measure => simp [intOf]; omega
        · have hkk : k = ls.length := by omega
          subst hkk
          have hsh := oN.len
          obtain ⟨a3, c3, e3, _⟩ := hsh
          simp only [Value.slice.injEq] at e3
          obtain ⟨rfl, rfl, rfl⟩ := e3
          have HON := Lib.hid oN
          clear oN oL
          go_wp2
          go_roundw
          case rel => exact ⟨r + 1, _, _, by omega, by go_num, by rw [HNX.out], by rw [HNX.out]; exact HON.out.mono B.size, Bm⟩
          case measure => simp [intOf]; omega
    · have hrr : r = n := by omega
      subst hrr
      go_wp2
      go_ret
      exact ⟨_, _, _, rfl, ol, B⟩
end Go.Proofs.YtpaoiiiceekkkaaGreatDoor
end
section
namespace Go.Proofs.YtpaoiiiceekkkaaGreatDoor
open Go.RowKit Go.G5

/-! by orders -/
def tot (l : List Int) (os : List (List Int)) (e : Nat) : Nat → Int
  | 0 => 0
  | j + 1 => tot l os e j + (cornerL l (os.getD j [])).getD e 0
def rowT (l : List Int) (os : List (List Int)) (n j : Nat) : List Int := (List.range n).map fun e => tot l os e j
theorem rowT_len (l : List Int) (os : List (List Int)) (n j : Nat) : (rowT l os n j).length = n := by simp [rowT]
theorem rowT_get (l : List Int) (os : List (List Int)) (n j e : Nat) (h : e < (rowT l os n j).length) : (rowT l os n j)[e] = tot l os e j := by simp [rowT]
theorem rowT_zero (l : List Int) (os : List (List Int)) (n : Nat) : rowT l os n 0 = List.replicate n 0 := by
  apply List.ext_getElem
  · simp [rowT]
  · intro i h1 h2
    simp [rowT, tot]
theorem mix_step (A B : List Int) (e : Nat) (hA : e < A.length) (hB : A.length = B.length) : (A.take e ++ B.drop e).set e A[e] = A.take (e + 1) ++ B.drop (e + 1) := by
  apply List.ext_getElem
  · simp; omega
  · intro i h1 h2
    simp only [List.length_set, List.length_append, List.length_take, List.length_drop] at h1 h2
    rw [List.getElem_set]
    by_cases hi : e = i
    · subst hi
      rw [if_pos rfl, List.getElem_append_left (by simp; omega)]; simp
    · rw [if_neg hi]
      by_cases hie : i < e
      · rw [List.getElem_append_left (by simp; omega), List.getElem_append_left (by simp; omega)]; simp
      · rw [List.getElem_append_right (by simp; omega), List.getElem_append_right (by simp; omega)]
        simp only [List.length_take, List.getElem_drop]
        congr 1; omega
theorem mix_len (A B : List Int) (e : Nat) (hA : e ≤ A.length) (hB : A.length = B.length) : (A.take e ++ B.drop e).length = A.length := by simp; omega
theorem mix_get (A B : List Int) (e : Nat) (hA : e < A.length) (hB : A.length = B.length) (h : e < (A.take e ++ B.drop e).length) : (A.take e ++ B.drop e)[e] = B[e] := by
  rw [List.getElem_append_right (by simp; omega)]
  simp only [List.length_take, List.getElem_drop]
  congr 1; omega

/-! by sets -/
def shTo (l : List Int) (n e : Nat) : Nat → Int
  | 0 => 0
  | s + 1 => if ibit (s : Int) e = 1 then shTo l n e s else shTo l n e s + (fact (pop s) : Int) * (fact (n - 1 - pop s) : Int) * (l.getD (setBit s e) 0 - l.getD s 0)
def shapL (n : Nat) (l : List Int) : List Int := (List.range n).map fun e => shTo l n e (2 ^ n)
def shapOf (n : Int) (l : List Int) : List Int := if isFunB n l then shapL n.toNat l else []

theorem shapOf_len (n : Int) (l : List Int) : (shapOf n l).length ≤ 1048576 := by
  unfold shapOf
  split
  · rename_i hf
    obtain ⟨h0, h5, _⟩ := funOk hf
    simp [shapL]; omega
  · simp

/-! sums of differences -/
def lin (l : List Int) : List (Int × Nat × Nat) → Int
  | [] => 0
  | t :: ts => lin l ts + t.1 * (l.getD t.2.1 0 - l.getD t.2.2 0)
def one (a i : Nat) : Int := if a = i then 1 else 0
def coef (i : Nat) : List (Int × Nat × Nat) → Int
  | [] => 0
  | t :: ts => coef i ts + t.1 * (one t.2.1 i - one t.2.2 i)
def sumN (f : Nat → Int) : Nat → Int
  | 0 => 0
  | n + 1 => sumN f n + f n
theorem sumN_congr {f g : Nat → Int} {n : Nat} (h : ∀ i, i < n → f i = g i) : sumN f n = sumN g n := by
  induction n with
  | zero => rfl
  | succ n ih => rw [sumN, sumN, ih (fun i hi => h i (by omega)), h n (by omega)]
theorem sumN_add (f g : Nat → Int) (n : Nat) : sumN (fun i => f i + g i) n = sumN f n + sumN g n := by
  induction n with
  | zero => rfl
  | succ n ih => rw [sumN, sumN, sumN, ih]; omega
theorem sumN_zero (n : Nat) : sumN (fun _ => 0) n = 0 := by
  induction n with
  | zero => rfl
  | succ n ih => rw [sumN, ih]; rfl
theorem sumN_one (l : List Int) (a n : Nat) (c : Int) : sumN (fun i => c * one a i * l.getD i 0) n = if a < n then c * l.getD a 0 else 0 := by
  induction n with
  | zero => simp [sumN]
  | succ n ih =>
    rw [sumN, ih]
    unfold one
    by_cases h1 : a < n
    · rw [if_pos h1, if_neg (show ¬ a = n by omega), if_pos (show a < n + 1 by omega)]; simp
    · by_cases h2 : a = n
      · subst h2; simp
      · rw [if_neg h1, if_neg h2, if_neg (show ¬ a < n + 1 by omega)]; simp
theorem lin_coef (l : List Int) (n : Nat) (ts : List (Int × Nat × Nat)) (h : ∀ t ∈ ts, t.2.1 < n ∧ t.2.2 < n) : lin l ts = sumN (fun i => coef i ts * l.getD i 0) n := by
  induction ts with
  | nil => simp only [lin, coef, Int.zero_mul, sumN_zero]
  | cons t ts ih =>
    have ht := h t (by simp)
    rw [lin, ih (fun x hx => h x (by simp [hx]))]
    have e : (fun i => coef i (t :: ts) * l.getD i 0) = fun i => coef i ts * l.getD i 0 + (t.1 * one t.2.1 i * l.getD i 0 + (-t.1) * one t.2.2 i * l.getD i 0) := by
      funext i
      rw [coef, Int.add_mul, Int.mul_sub, Int.sub_mul, Int.neg_mul, Int.neg_mul]; omega
    rw [e, sumN_add, sumN_add, sumN_one, sumN_one, if_pos ht.1, if_pos ht.2, Int.mul_sub, Int.neg_mul]; omega

def cornerP (o : List Int) : Nat → List (Nat × Nat)
  | 0 => List.replicate o.length (0, 0)
  | k + 1 => (cornerP o k).set (o.getD k 0).toNat (setBit (prefS o k) (o.getD k 0).toNat, prefS o k)
theorem cornerP_map (l o : List Int) (k : Nat) : cornerTo l o k = (cornerP o k).map fun p => l.getD p.1 0 - l.getD p.2 0 := by
  induction k with
  | zero => simp [cornerTo, cornerP]
  | succ k ih => rw [cornerTo, cornerP, List.map_set, ih]; rfl
def tI (os : List (List Int)) (e : Nat) : Nat → List (Int × Nat × Nat)
  | 0 => []
  | j + 1 => (1, (cornerP (os.getD j []) (os.getD j []).length).getD e (0, 0)) :: tI os e j
def tS (n e : Nat) : Nat → List (Int × Nat × Nat)
  | 0 => []
  | s + 1 => if ibit (s : Int) e = 1 then tS n e s else ((fact (pop s) : Int) * (fact (n - 1 - pop s) : Int), setBit s e, s) :: tS n e s
theorem tot_lin (l : List Int) (os : List (List Int)) (e j : Nat) : tot l os e j = lin l (tI os e j) := by
  induction j with
  | zero => rfl
  | succ j ih =>
    rw [tot, tI, lin, ih]
    unfold cornerL
    rw [cornerP_map]
    generalize cornerP (os.getD j []) (os.getD j []).length = P
    have : (P.map fun p => l.getD p.1 0 - l.getD p.2 0).getD e 0 = l.getD (P.getD e (0, 0)).1 0 - l.getD (P.getD e (0, 0)).2 0 := by
      rw [List.getD_eq_getElem?_getD, List.getElem?_map, List.getD_eq_getElem?_getD]
      cases hP : P[e]? with
      | none => simp [hP]
      | some p => simp [hP]
    rw [this, Int.one_mul]
theorem shTo_lin (l : List Int) (n e s : Nat) : shTo l n e s = lin l (tS n e s) := by
  induction s with
  | zero => rfl
  | succ s ih =>
    rw [shTo, tS]
    by_cases h : ibit (s : Int) e = 1
    · rw [if_pos h, if_pos h, ih]
    · rw [if_neg h, if_neg h, lin, ih]
def sameCoef (ts us : List (Int × Nat × Nat)) (n : Nat) : Bool :=
  ts.all (fun t => decide (t.2.1 < n) && decide (t.2.2 < n)) && us.all (fun t => decide (t.2.1 < n) && decide (t.2.2 < n)) && (List.range n).all fun i => coef i ts == coef i us
theorem lin_same (l : List Int) (ts us : List (Int × Nat × Nat)) (n : Nat) (h : sameCoef ts us n = true) : lin l ts = lin l us := by
  unfold sameCoef at h
  simp only [Bool.and_eq_true, List.all_eq_true, decide_eq_true_eq, List.mem_range, beq_iff_eq] at h
  rw [lin_coef l n ts h.1.1, lin_coef l n us h.1.2]
  exact sumN_congr fun i hi => by rw [h.2 i hi]
theorem shap_check : ∀ n, n ≤ 5 → ∀ e, e < n → sameCoef (tI (ordersN n n) e (ordersN n n).length) (tS n e (2 ^ n)) (2 ^ n) = true := by decide +kernel
theorem shap_same (n : Nat) (hn : n ≤ 5) (l : List Int) : rowT l (ordersN n n) n (ordersN n n).length = shapL n l := by
  unfold rowT shapL
  apply List.map_congr_left
  intro e he
  rw [tot_lin, shTo_lin]
  exact lin_same l _ _ _ (shap_check n hn e (by simpa using he))
end Go.Proofs.YtpaoiiiceekkkaaGreatDoor
end
